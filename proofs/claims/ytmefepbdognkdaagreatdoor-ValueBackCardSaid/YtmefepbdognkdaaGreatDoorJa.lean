/- Values of cells, arguments, numbers of arguments: walked. -/
import Derived.Test.YtmefepbdognkdaaGreatDoorHf
import Derived.Test.YtmefepbdognkdaaGreatDoorBp
import Derived.Test.YtmefepbdognkdaaGreatDoorCodeJ
namespace Go.A
open Go.Proofs
set_option maxRecDepth 100000
set_option linter.unusedSimpArgs false
set_option linter.unusedVariables false

section
variable {σ0 σ : ASt} {k : SK} {n s c : Nat} {q : Role}
theorem set_swap2 {b c : Nat} {r q : Option Role} (h : b ≠ c) : (σ.set b r).set c q = (σ.set c q).set b r := by
  funext x
  simp only [ASt.set]
  by_cases h1 : x = c
  · subst h1; simp [h.symm]
  · simp [h1]
theorem Drop.over {σ1 : ASt} {r : Option Role} (h : Drop σ1 σ) (hc : σ c = none) : Drop (σ1.set c r) σ := by
  intro b
  by_cases hb : b = c
  · subst hb; exact .inr hc
  · rw [ASt.set_ne hb]; exact h b
/-- A growing slice, with one block more. -/
theorem Grown.upon (hg : Grown σ0 σ k n s) (hc : σ c = none) : Grown (σ0.set c (some q)) (σ.set c (some q)) k n s ∧ σ0 c = none := by
  rcases hg with ⟨h1, h2, rfl⟩ | ⟨t, T, h1, h2, rfl⟩
  · exact ⟨.inl ⟨h1, h2, rfl⟩, hc⟩
  · obtain ⟨h3, h4, h5⟩ := set_none hc
    exact ⟨.inr ⟨t, T, h1, by rw [ASt.set_ne h4]; exact h2, set_swap2 h4⟩, h5⟩
theorem Grown.off (h : Grown (σ0.set c (some q)) σ k n s) (hc : σ0 c = none) : ∃ σ', Drop σ σ' ∧ Grown σ0 σ' k n s := by
  rcases h with ⟨h1, h2, rfl⟩ | ⟨t, T, h1, h2, rfl⟩
  · exact ⟨σ0, Drop.set hc, .inl ⟨h1, h2, rfl⟩⟩
  · obtain ⟨h3, h4, h5⟩ := set_none h2
    refine ⟨σ0.set t (some (.tok (n * s))), ?_, .inr ⟨t, T, h1, h5, rfl⟩⟩
    rw [set_swap2 h4]
    exact Drop.set (by rw [ASt.set_ne h4]; exact hc)
end
/-- A cell's value. -/
inductive PV where
  | blank
  | num (n : Int)
  | text (s : List UInt8)
  | bool (b : Bool)
  | fail (n : Int)
  deriving DecidableEq
def PV.av : PV → AV
  | .blank => .iface 143 (.agg [])
  | .num n => .iface 80 (.int .i64 n)
  | .text s => .iface 124 (.str s)
  | .bool b => .iface 127 (.bool b)
  | .fail n => .iface 51 (.int .i64 n)
theorem PV.av_cells (v : PV) : v.av.cells = [v.av] := by cases v <;> rfl
theorem PV.av_leaf (v : PV) : v.av.leaf = true := by cases v <;> rfl
theorem PV.av_any (v : PV) : v.av.isAny = false := by cases v <;> rfl
/-- Texts are not long. -/
def PV.small : PV → Prop
  | .text s => s.length ≤ 100000
  | _ => True
def argAV (v : PV) : AV := .agg [.int .i64 1, .int .i64 1, .bool false, .sl .full [v.av]]
theorem argAV_any (v : PV) : (argAV v).isAny = false := rfl
theorem argAV_len (v : PV) : (argAV v).cells.length = 4 := rfl
def asNum : PV → Int × Int
  | .blank => (0, 0)
  | .num n => (n, 0)
  | .text s => match parseD (Lib.trimB s 32) with
    | some n => (n, 0)
    | none => (0, 3)
  | .bool b => (if b = true then 10000 else 0, 0)
  | .fail f => (0, f)
theorem sTrim_ok (s : List UInt8) (hs : s.length ≤ 9223372036854775807) : Pure Tryz.prog 145 [.str s, .str [32]] (.str (Lib.trimB s 32)) := by
  intro σ
  refine ACalls.of_ext (u := .string ⟨(Lib.trimB s 32).toArray⟩) (fun w vs hs' ha => ?_) fun w => .str _
  cases ha with
  | cons h1 h2 =>
  cases h2 with
  | cons h2 h3 =>
  cases h1; cases h2; cases h3
  exact (Tryz.strings_Trim_one ⟨⟨s⟩⟩ 32 (by decide) w hs).mono fun e w' ⟨he, hw⟩ => ⟨he, by rcases hw with rfl | rfl; exact Ext.refl _; exact .drew (.refl _)⟩
theorem trimB_len (s : List UInt8) (c : UInt8) : (Lib.trimB s c).length ≤ s.length := by
  unfold Lib.trimB
  have h1 : ∀ l : List UInt8, (Lib.trimRightB l c).length ≤ l.length := by
    intro l
    unfold Lib.trimRightB
    rw [List.length_reverse]
    exact Nat.le_trans (List.dropWhile_sublist _).length_le (by simp)
  have h2 : ∀ l : List UInt8, (Lib.trimLeftB l c).length ≤ l.length := by
    intro l
    unfold Lib.trimLeftB
    exact (List.dropWhile_sublist _).length_le
  exact Nat.le_trans (h2 _) (h1 _)
theorem trim_ok (s : List UInt8) (hs : s.length ≤ 9223372036854775807) : Pure Tryz.prog 101 [.str s] (.str (Lib.trimB s 32)) := by
  intro σ
  have hT := sTrim_ok s hs
  refine a101 (by simp) ?_
  simp (disch := first | assumption | omega | (simp only [List.length_append, List.length_cons, List.length_nil]; omega)) only [go_sem, reduceCtorEq, Nat.reduceEqDiff, Nat.reduceAdd, Nat.reduceSub, Nat.reduceMul, Nat.reduceLeDiff, Int.reduceLT, Int.reduceLE, Int.reduceEq, ↓reduceIte, Int.reduceNeg, Int.reduceAdd, Int.reduceSub, Int.reduceMul, true_imp_iff, forall_const, Nat.mul_one, Int.reduceToNat, Nat.reducePow, Int.reducePow, Bool.true_and, Bool.false_and, Bool.and_false]
  refine hT.use ?_
  simp (disch := first | assumption | omega | (simp only [List.length_append, List.length_cons, List.length_nil]; omega)) only [go_sem, reduceCtorEq, Nat.reduceEqDiff, Nat.reduceAdd, Nat.reduceSub, Nat.reduceMul, Nat.reduceLeDiff, Int.reduceLT, Int.reduceLE, Int.reduceEq, ↓reduceIte, Int.reduceNeg, Int.reduceAdd, Int.reduceSub, Int.reduceMul, true_imp_iff, forall_const, Nat.mul_one, Int.reduceToNat, Nat.reducePow, Int.reducePow, Bool.true_and, Bool.false_and, Bool.and_false]
  exact retC_by (by repeat' (first | exact Drop.refl _ | with_reducible refine Drop.off ?_ (by assumption))) (.refl _) ⟨rfl, rfl⟩
theorem asNumber_ok (v : PV) (hv : v.small) : Pure Tryz.prog 27 [v.av] (.tuple [.int .i64 (asNum v).1, .int .i64 (asNum v).2]) := by
  intro σ
  refine a27 (by simp) ?_
  cases v with
  | blank =>
    simp only [PV.av, asNum]
    simp (disch := first | assumption | omega | (simp only [List.length_append, List.length_cons, List.length_nil]; omega)) only [go_sem, reduceCtorEq, Nat.reduceEqDiff, Nat.reduceAdd, Nat.reduceSub, Nat.reduceMul, Nat.reduceLeDiff, Int.reduceLT, Int.reduceLE, Int.reduceEq, ↓reduceIte, Int.reduceNeg, Int.reduceAdd, Int.reduceSub, Int.reduceMul, true_imp_iff, forall_const, Nat.mul_one, Int.reduceToNat, Nat.reducePow, Int.reducePow, Bool.true_and, Bool.false_and, Bool.and_false]
    exact retC_by (by repeat' (first | exact Drop.refl _ | with_reducible refine Drop.off ?_ (by assumption))) (.refl _) ⟨rfl, rfl⟩
  | num n =>
    simp only [PV.av, asNum]
    simp (disch := first | assumption | omega | (simp only [List.length_append, List.length_cons, List.length_nil]; omega)) only [go_sem, reduceCtorEq, Nat.reduceEqDiff, Nat.reduceAdd, Nat.reduceSub, Nat.reduceMul, Nat.reduceLeDiff, Int.reduceLT, Int.reduceLE, Int.reduceEq, ↓reduceIte, Int.reduceNeg, Int.reduceAdd, Int.reduceSub, Int.reduceMul, true_imp_iff, forall_const, Nat.mul_one, Int.reduceToNat, Nat.reducePow, Int.reducePow, Bool.true_and, Bool.false_and, Bool.and_false]
    exact retC_by (by repeat' (first | exact Drop.refl _ | with_reducible refine Drop.off ?_ (by assumption))) (.refl _) ⟨rfl, rfl⟩
  | text s =>
    have hs : s.length ≤ 100000 := hv
    have hT := trim_ok s (by omega)
    have hP := dparse_ok (Lib.trimB s 32) (by have := trimB_len s 32; omega)
    simp only [PV.av, asNum]
    generalize Lib.trimB s 32 = t at *
    cases ho : parseD t with
    | none =>
      rw [ho] at hP
      simp only [resAV, Option.getD_none, Option.isSome_none] at hP
      simp (disch := first | assumption | omega | (simp only [List.length_append, List.length_cons, List.length_nil]; omega)) only [go_sem, reduceCtorEq, Nat.reduceEqDiff, Nat.reduceAdd, Nat.reduceSub, Nat.reduceMul, Nat.reduceLeDiff, Int.reduceLT, Int.reduceLE, Int.reduceEq, ↓reduceIte, Int.reduceNeg, Int.reduceAdd, Int.reduceSub, Int.reduceMul, true_imp_iff, forall_const, Nat.mul_one, Int.reduceToNat, Nat.reducePow, Int.reducePow, Bool.true_and, Bool.false_and, Bool.and_false]
      refine hT.use ?_
      simp (disch := first | assumption | omega | (simp only [List.length_append, List.length_cons, List.length_nil]; omega)) only [go_sem, reduceCtorEq, Nat.reduceEqDiff, Nat.reduceAdd, Nat.reduceSub, Nat.reduceMul, Nat.reduceLeDiff, Int.reduceLT, Int.reduceLE, Int.reduceEq, ↓reduceIte, Int.reduceNeg, Int.reduceAdd, Int.reduceSub, Int.reduceMul, true_imp_iff, forall_const, Nat.mul_one, Int.reduceToNat, Nat.reducePow, Int.reducePow, Bool.true_and, Bool.false_and, Bool.and_false]
      refine hP.use ?_
      simp (disch := first | assumption | omega | (simp only [List.length_append, List.length_cons, List.length_nil]; omega)) only [go_sem, reduceCtorEq, Nat.reduceEqDiff, Nat.reduceAdd, Nat.reduceSub, Nat.reduceMul, Nat.reduceLeDiff, Int.reduceLT, Int.reduceLE, Int.reduceEq, ↓reduceIte, Int.reduceNeg, Int.reduceAdd, Int.reduceSub, Int.reduceMul, true_imp_iff, forall_const, Nat.mul_one, Int.reduceToNat, Nat.reducePow, Int.reducePow, Bool.true_and, Bool.false_and, Bool.and_false]
      exact retC_by (by repeat' (first | exact Drop.refl _ | with_reducible refine Drop.off ?_ (by assumption))) (.refl _) ⟨rfl, rfl⟩
    | some n =>
      rw [ho] at hP
      simp only [resAV, Option.getD_some, Option.isSome_some] at hP
      simp (disch := first | assumption | omega | (simp only [List.length_append, List.length_cons, List.length_nil]; omega)) only [go_sem, reduceCtorEq, Nat.reduceEqDiff, Nat.reduceAdd, Nat.reduceSub, Nat.reduceMul, Nat.reduceLeDiff, Int.reduceLT, Int.reduceLE, Int.reduceEq, ↓reduceIte, Int.reduceNeg, Int.reduceAdd, Int.reduceSub, Int.reduceMul, true_imp_iff, forall_const, Nat.mul_one, Int.reduceToNat, Nat.reducePow, Int.reducePow, Bool.true_and, Bool.false_and, Bool.and_false]
      refine hT.use ?_
      simp (disch := first | assumption | omega | (simp only [List.length_append, List.length_cons, List.length_nil]; omega)) only [go_sem, reduceCtorEq, Nat.reduceEqDiff, Nat.reduceAdd, Nat.reduceSub, Nat.reduceMul, Nat.reduceLeDiff, Int.reduceLT, Int.reduceLE, Int.reduceEq, ↓reduceIte, Int.reduceNeg, Int.reduceAdd, Int.reduceSub, Int.reduceMul, true_imp_iff, forall_const, Nat.mul_one, Int.reduceToNat, Nat.reducePow, Int.reducePow, Bool.true_and, Bool.false_and, Bool.and_false]
      refine hP.use ?_
      simp (disch := first | assumption | omega | (simp only [List.length_append, List.length_cons, List.length_nil]; omega)) only [go_sem, reduceCtorEq, Nat.reduceEqDiff, Nat.reduceAdd, Nat.reduceSub, Nat.reduceMul, Nat.reduceLeDiff, Int.reduceLT, Int.reduceLE, Int.reduceEq, ↓reduceIte, Int.reduceNeg, Int.reduceAdd, Int.reduceSub, Int.reduceMul, true_imp_iff, forall_const, Nat.mul_one, Int.reduceToNat, Nat.reducePow, Int.reducePow, Bool.true_and, Bool.false_and, Bool.and_false]
      exact retC_by (by repeat' (first | exact Drop.refl _ | with_reducible refine Drop.off ?_ (by assumption))) (.refl _) ⟨rfl, rfl⟩
  | bool b =>
    simp only [PV.av, asNum]
    cases b
    · simp (disch := first | assumption | omega | (simp only [List.length_append, List.length_cons, List.length_nil]; omega)) only [go_sem, reduceCtorEq, Nat.reduceEqDiff, Nat.reduceAdd, Nat.reduceSub, Nat.reduceMul, Nat.reduceLeDiff, Int.reduceLT, Int.reduceLE, Int.reduceEq, ↓reduceIte, Int.reduceNeg, Int.reduceAdd, Int.reduceSub, Int.reduceMul, true_imp_iff, forall_const, Nat.mul_one, Int.reduceToNat, Nat.reducePow, Int.reducePow, Bool.true_and, Bool.false_and, Bool.and_false]
      exact retC_by (by repeat' (first | exact Drop.refl _ | with_reducible refine Drop.off ?_ (by assumption))) (.refl _) ⟨rfl, rfl⟩
    · simp (disch := first | assumption | omega | (simp only [List.length_append, List.length_cons, List.length_nil]; omega)) only [go_sem, reduceCtorEq, Nat.reduceEqDiff, Nat.reduceAdd, Nat.reduceSub, Nat.reduceMul, Nat.reduceLeDiff, Int.reduceLT, Int.reduceLE, Int.reduceEq, ↓reduceIte, Int.reduceNeg, Int.reduceAdd, Int.reduceSub, Int.reduceMul, true_imp_iff, forall_const, Nat.mul_one, Int.reduceToNat, Nat.reducePow, Int.reducePow, Bool.true_and, Bool.false_and, Bool.and_false]
      exact retC_by (by repeat' (first | exact Drop.refl _ | with_reducible refine Drop.off ?_ (by assumption))) (.refl _) ⟨rfl, rfl⟩
  | fail f =>
    simp only [PV.av, asNum]
    simp (disch := first | assumption | omega | (simp only [List.length_append, List.length_cons, List.length_nil]; omega)) only [go_sem, reduceCtorEq, Nat.reduceEqDiff, Nat.reduceAdd, Nat.reduceSub, Nat.reduceMul, Nat.reduceLeDiff, Int.reduceLT, Int.reduceLE, Int.reduceEq, ↓reduceIte, Int.reduceNeg, Int.reduceAdd, Int.reduceSub, Int.reduceMul, true_imp_iff, forall_const, Nat.mul_one, Int.reduceToNat, Nat.reducePow, Int.reducePow, Bool.true_and, Bool.false_and, Bool.and_false]
    exact retC_by (by repeat' (first | exact Drop.refl _ | with_reducible refine Drop.off ?_ (by assumption))) (.refl _) ⟨rfl, rfl⟩
theorem argval_ok (v : PV) : Pure Tryz.prog 79 [argAV v] v.av := by
  intro σ
  unfold argAV
  have h1 := PV.av_cells v
  have h2 := PV.av_any v
  obtain ⟨x, hx⟩ : ∃ x, v.av = x := ⟨_, rfl⟩
  rw [hx] at h1 h2 ⊢
  refine a79 (by simp) ?_
  simp (disch := first | assumption | omega | (simp only [List.length_append, List.length_cons, List.length_nil]; omega)) only [go_sem, reduceCtorEq, Nat.reduceEqDiff, Nat.reduceAdd, Nat.reduceSub, Nat.reduceMul, Nat.reduceLeDiff, Int.reduceLT, Int.reduceLE, Int.reduceEq, ↓reduceIte, Int.reduceNeg, Int.reduceAdd, Int.reduceSub, Int.reduceMul, true_imp_iff, forall_const, Nat.mul_one, Int.reduceToNat, Nat.reducePow, Int.reducePow, Bool.true_and, Bool.false_and, Bool.and_false]
  refine boxC_by rfl fun b hb => ?_
  simp (disch := first | assumption | omega | (simp only [List.length_append, List.length_cons, List.length_nil]; omega)) only [go_sem, reduceCtorEq, Nat.reduceEqDiff, Nat.reduceAdd, Nat.reduceSub, Nat.reduceMul, Nat.reduceLeDiff, Int.reduceLT, Int.reduceLE, Int.reduceEq, ↓reduceIte, Int.reduceNeg, Int.reduceAdd, Int.reduceSub, Int.reduceMul, true_imp_iff, forall_const, Nat.mul_one, Int.reduceToNat, Nat.reducePow, Int.reducePow, Bool.true_and, Bool.false_and, Bool.and_false, h1, h2]
  exact retC_by (by repeat' (first | exact Drop.refl _ | with_reducible refine Drop.off ?_ (by assumption))) (.refl _) ⟨by cases v <;> subst hx <;> rfl, rfl⟩
theorem vone_ok (v : PV) : Pure Tryz.prog 59 [v.av] (argAV v) := by
  intro σ
  unfold argAV
  have h1 := PV.av_cells v
  have h2 := PV.av_any v
  generalize v.av = x at *
  refine a59 (by simp) ?_
  simp (disch := first | assumption | omega | (simp only [List.length_append, List.length_cons, List.length_nil]; omega)) only [go_sem, reduceCtorEq, Nat.reduceEqDiff, Nat.reduceAdd, Nat.reduceSub, Nat.reduceMul, Nat.reduceLeDiff, Int.reduceLT, Int.reduceLE, Int.reduceEq, ↓reduceIte, Int.reduceNeg, Int.reduceAdd, Int.reduceSub, Int.reduceMul, true_imp_iff, forall_const, Nat.mul_one, Int.reduceToNat, Nat.reducePow, Int.reducePow, Bool.true_and, Bool.false_and, Bool.and_false, h1, h2]
  refine allocC_by fun b hb => ?_
  simp (disch := first | assumption | omega | (simp only [List.length_append, List.length_cons, List.length_nil]; omega)) only [go_sem, reduceCtorEq, Nat.reduceEqDiff, Nat.reduceAdd, Nat.reduceSub, Nat.reduceMul, Nat.reduceLeDiff, Int.reduceLT, Int.reduceLE, Int.reduceEq, ↓reduceIte, Int.reduceNeg, Int.reduceAdd, Int.reduceSub, Int.reduceMul, true_imp_iff, forall_const, Nat.mul_one, Int.reduceToNat, Nat.reducePow, Int.reducePow, Bool.true_and, Bool.false_and, Bool.and_false, h1, h2]
  exact retC_by (by repeat' (first | exact Drop.refl _ | with_reducible refine Drop.off ?_ (by assumption))) (.refl _) ⟨rfl, rfl⟩
/-- A number that a function makes. -/
def cntP : Option Int → PV
  | some n => .num n
  | none => .fail 2
theorem counted_ok (o : Option Int) : Pure Tryz.prog 43 [.int .i64 (o.getD 0), .bool o.isSome] (cntP o).av := by
  intro σ
  refine a43 (by simp) ?_
  cases o with
  | none =>
    simp only [cntP, PV.av, Option.getD_none, Option.isSome_none]
    simp (disch := first | assumption | omega | (simp only [List.length_append, List.length_cons, List.length_nil]; omega)) only [go_sem, reduceCtorEq, Nat.reduceEqDiff, Nat.reduceAdd, Nat.reduceSub, Nat.reduceMul, Nat.reduceLeDiff, Int.reduceLT, Int.reduceLE, Int.reduceEq, ↓reduceIte, Int.reduceNeg, Int.reduceAdd, Int.reduceSub, Int.reduceMul, true_imp_iff, forall_const, Nat.mul_one, Int.reduceToNat, Nat.reducePow, Int.reducePow, Bool.true_and, Bool.false_and, Bool.and_false]
    exact retC_by (by repeat' (first | exact Drop.refl _ | with_reducible refine Drop.off ?_ (by assumption))) (.refl _) ⟨rfl, rfl⟩
  | some n =>
    simp only [cntP, PV.av, Option.getD_some, Option.isSome_some]
    simp (disch := first | assumption | omega | (simp only [List.length_append, List.length_cons, List.length_nil]; omega)) only [go_sem, reduceCtorEq, Nat.reduceEqDiff, Nat.reduceAdd, Nat.reduceSub, Nat.reduceMul, Nat.reduceLeDiff, Int.reduceLT, Int.reduceLE, Int.reduceEq, ↓reduceIte, Int.reduceNeg, Int.reduceAdd, Int.reduceSub, Int.reduceMul, true_imp_iff, forall_const, Nat.mul_one, Int.reduceToNat, Nat.reducePow, Int.reducePow, Bool.true_and, Bool.false_and, Bool.and_false]
    exact retC_by (by repeat' (first | exact Drop.refl _ | with_reducible refine Drop.off ?_ (by assumption))) (.refl _) ⟨rfl, rfl⟩
def givenP : PV → Int × Bool
  | .num n => (n, true)
  | _ => (0, false)
theorem given_ok (v : PV) : Pure Tryz.prog 89 [v.av] (.tuple [.int .i64 (givenP v).1, .bool (givenP v).2]) := by
  intro σ
  refine a89 (by simp) ?_
  cases v <;> simp only [PV.av, givenP] <;> simp (disch := first | assumption | omega | (simp only [List.length_append, List.length_cons, List.length_nil]; omega)) only [go_sem, reduceCtorEq, Nat.reduceEqDiff, Nat.reduceAdd, Nat.reduceSub, Nat.reduceMul, Nat.reduceLeDiff, Int.reduceLT, Int.reduceLE, Int.reduceEq, ↓reduceIte, Int.reduceNeg, Int.reduceAdd, Int.reduceSub, Int.reduceMul, true_imp_iff, forall_const, Nat.mul_one, Int.reduceToNat, Nat.reducePow, Int.reducePow, Bool.true_and, Bool.false_and, Bool.and_false]
  all_goals exact retC_by (by repeat' (first | exact Drop.refl _ | with_reducible refine Drop.off ?_ (by assumption))) (.refl _) ⟨rfl, rfl⟩
def failedP : PV → Int × Bool
  | .fail n => (n, true)
  | _ => (0, false)
theorem failed_ok (v : PV) : Pure Tryz.prog 91 [v.av] (.tuple [.int .i64 (failedP v).1, .bool (failedP v).2]) := by
  intro σ
  refine a91 (by simp) ?_
  cases v <;> simp only [PV.av, failedP] <;> simp (disch := first | assumption | omega | (simp only [List.length_append, List.length_cons, List.length_nil]; omega)) only [go_sem, reduceCtorEq, Nat.reduceEqDiff, Nat.reduceAdd, Nat.reduceSub, Nat.reduceMul, Nat.reduceLeDiff, Int.reduceLT, Int.reduceLE, Int.reduceEq, ↓reduceIte, Int.reduceNeg, Int.reduceAdd, Int.reduceSub, Int.reduceMul, true_imp_iff, forall_const, Nat.mul_one, Int.reduceToNat, Nat.reducePow, Int.reducePow, Bool.true_and, Bool.false_and, Bool.and_false]
  all_goals exact retC_by (by repeat' (first | exact Drop.refl _ | with_reducible refine Drop.off ?_ (by assumption))) (.refl _) ⟨rfl, rfl⟩
/-- A value as plain data. -/
def tellAV : PV → AV
  | .blank => .agg [.int .i64 0, .int .i64 0, .str []]
  | .num n => .agg [.int .i64 1, .int .i64 n, .str []]
  | .text s => .agg [.int .i64 2, .int .i64 0, .str s]
  | .bool b => .agg [.int .i64 3, .int .i64 (if b = true then 1 else 0), .str []]
  | .fail n => .agg [.int .i64 4, .int .i64 n, .str []]
theorem tell_ok (v : PV) : Pure Tryz.prog 37 [v.av] (tellAV v) := by
  intro σ
  refine a37 (by simp) ?_
  cases v with
  | bool b =>
    cases b <;> simp only [PV.av, tellAV] <;> simp (disch := first | assumption | omega | (simp only [List.length_append, List.length_cons, List.length_nil]; omega)) only [go_sem, reduceCtorEq, Nat.reduceEqDiff, Nat.reduceAdd, Nat.reduceSub, Nat.reduceMul, Nat.reduceLeDiff, Int.reduceLT, Int.reduceLE, Int.reduceEq, ↓reduceIte, Int.reduceNeg, Int.reduceAdd, Int.reduceSub, Int.reduceMul, true_imp_iff, forall_const, Nat.mul_one, Int.reduceToNat, Nat.reducePow, Int.reducePow, Bool.true_and, Bool.false_and, Bool.and_false]
    all_goals
      refine allocC_by fun b hb => ?_
      simp (disch := first | assumption | omega | (simp only [List.length_append, List.length_cons, List.length_nil]; omega)) only [go_sem, reduceCtorEq, Nat.reduceEqDiff, Nat.reduceAdd, Nat.reduceSub, Nat.reduceMul, Nat.reduceLeDiff, Int.reduceLT, Int.reduceLE, Int.reduceEq, ↓reduceIte, Int.reduceNeg, Int.reduceAdd, Int.reduceSub, Int.reduceMul, true_imp_iff, forall_const, Nat.mul_one, Int.reduceToNat, Nat.reducePow, Int.reducePow, Bool.true_and, Bool.false_and, Bool.and_false]
      exact retC_by (by repeat' (first | exact Drop.refl _ | with_reducible refine Drop.off ?_ (by assumption))) (.refl _) ⟨rfl, rfl⟩
  | _ =>
    simp only [PV.av, tellAV]
    simp (disch := first | assumption | omega | (simp only [List.length_append, List.length_cons, List.length_nil]; omega)) only [go_sem, reduceCtorEq, Nat.reduceEqDiff, Nat.reduceAdd, Nat.reduceSub, Nat.reduceMul, Nat.reduceLeDiff, Int.reduceLT, Int.reduceLE, Int.reduceEq, ↓reduceIte, Int.reduceNeg, Int.reduceAdd, Int.reduceSub, Int.reduceMul, true_imp_iff, forall_const, Nat.mul_one, Int.reduceToNat, Nat.reducePow, Int.reducePow, Bool.true_and, Bool.false_and, Bool.and_false]
    refine allocC_by fun b hb => ?_
    simp (disch := first | assumption | omega | (simp only [List.length_append, List.length_cons, List.length_nil]; omega)) only [go_sem, reduceCtorEq, Nat.reduceEqDiff, Nat.reduceAdd, Nat.reduceSub, Nat.reduceMul, Nat.reduceLeDiff, Int.reduceLT, Int.reduceLE, Int.reduceEq, ↓reduceIte, Int.reduceNeg, Int.reduceAdd, Int.reduceSub, Int.reduceMul, true_imp_iff, forall_const, Nat.mul_one, Int.reduceToNat, Nat.reducePow, Int.reducePow, Bool.true_and, Bool.false_and, Bool.and_false]
    exact retC_by (by repeat' (first | exact Drop.refl _ | with_reducible refine Drop.off ?_ (by assumption))) (.refl _) ⟨rfl, rfl⟩
end Go.A
