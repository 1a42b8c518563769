/- Quote, and TokenQuotes, walked. -/
import Derived.Test.YtfjnahkcfdcbeaaDoorMc
import Derived.Test.YtfjnahkcfdcbeaaDoorYf
import Derived.Test.YtfjnahkcfdcbeaaDoorCodeDd
namespace Go.A
open Go.Proofs Go.Lib
set_option maxRecDepth 100000
set_option linter.unusedSimpArgs false
set_option linter.unusedVariables false

/-- bytealg.MaxLen holds some number. -/
def MaxL (σ : ASt) : Prop := ∃ m : Int, σ 3 = some (.fix ([m].map (AV.int .i64)))
theorem replace_ok {σ : ASt} (hM : MaxL σ) (s : List UInt8) (hs : s.length ≤ 100000) : ACalls Tryd.prog 41 [.str s, .str [34], .str [34, 34]] σ fun v σ' => v = .str (dbl s) ∧ σ' = σ := by
  obtain ⟨m, hm⟩ := hM
  refine ACalls.of_below (u := .string ⟨⟨dbl s⟩⟩) (fun w vs hsim ha => ?_) fun w => .str _
  cases ha with
  | cons h1 h2 =>
  cases h2 with
  | cons h2 h3 =>
  cases h3 with
  | cons h3 h4 =>
  cases h1; cases h2; cases h3; cases h4
  have hcell := fix_ints hsim hm 0 m rfl
  have e1 : (⟨⟨s⟩⟩ : ByteArray).size = s.length := rfl
  have e2 : (⟨⟨[34, 34]⟩⟩ : ByteArray).size = 2 := rfl
  have hcb : countB ⟨⟨s⟩⟩ ⟨⟨[34]⟩⟩ ≤ s.length := by
    show count s [34] ≤ s.length
    rw [count_one]
    exact List.count_le_length
  refine (Tryd.strings_ReplaceAll ⟨⟨s⟩⟩ ⟨⟨[34]⟩⟩ ⟨⟨[34, 34]⟩⟩ m w (by rw [e1]; omega) hcell (by decide) (by rw [e1, e2]; omega)).mono ?_
  rintro e w' ⟨rfl, hb⟩
  refine ⟨?_, hb⟩
  show _ = Ending.returned (.string ⟨⟨dbl s⟩⟩)
  rw [← replace_dbl]
theorem tquote_ok {σ : ASt} (hM : MaxL σ) (s : List UInt8) (hs : s.length ≤ 100000) : ACalls Tryd.prog 26 [.str s] σ fun v σ' => v = .str (34 :: dbl s ++ [34]) ∧ σ' = σ := by
  have hl := dbl_len s
  refine a26 (by simp) ?_
  simp (disch := first | assumption | omega | (simp only [List.length_append, List.length_cons, List.length_nil]; omega)) only [go_sem, reduceCtorEq, Nat.reduceEqDiff, Nat.reduceAdd, Nat.reduceSub, Nat.reduceMul, Nat.reduceLeDiff, Int.reduceLT, Int.reduceLE, Int.reduceEq, ↓reduceIte, Int.reduceNeg, Int.reduceAdd, Int.reduceSub, Int.reduceMul, true_imp_iff, forall_const, Nat.mul_one, Int.reduceToNat, Nat.reducePow, Int.reducePow, Bool.true_and, Bool.false_and, Bool.and_false]
  refine (replace_ok hM s hs).mono ?_
  rintro v σ' ⟨rfl, rfl⟩
  have e1 : binS .add [34] (dbl s) = some (.str (34 :: dbl s)) := binS_add (by simp; omega)
  have e2 : binS .add (34 :: dbl s) [34] = some (.str (34 :: dbl s ++ [34])) := binS_add (by simp; omega)
  simp (disch := first | assumption | omega | (simp only [List.length_append, List.length_cons, List.length_nil]; omega)) only [go_sem, reduceCtorEq, Nat.reduceEqDiff, Nat.reduceAdd, Nat.reduceSub, Nat.reduceMul, Nat.reduceLeDiff, Int.reduceLT, Int.reduceLE, Int.reduceEq, ↓reduceIte, Int.reduceNeg, Int.reduceAdd, Int.reduceSub, Int.reduceMul, true_imp_iff, forall_const, Nat.mul_one, Int.reduceToNat, Nat.reducePow, Int.reducePow, Bool.true_and, Bool.false_and, Bool.and_false, e1, e2]
  exact retC_by (Drop.refl _) (.refl _) ⟨rfl, rfl⟩
set_option maxHeartbeats 1000000 in
theorem TokenQuotes_any {σ : ASt} (hU : U8 σ) (hM : MaxL σ) (l : List UInt8) : ACalls Tryd.prog 8 [.str l] σ fun v σ' => v = .bool true ∧ σ' = σ := by
  have hc := cut_ok l 400
  have hl : (l.take 400).length ≤ 400 := by simp; omega
  generalize l.take 400 = s at hc hl
  have law := quotes_law hl
  have hdl := dbl_len s
  have hsn := tsigns_ok hU s (by omega)
  rw [signsP_eq] at hsn
  refine a8 (by simp) ?_
  simp (disch := first | assumption | omega | (simp only [List.length_append, List.length_cons, List.length_nil]; omega)) only [go_sem, reduceCtorEq, Nat.reduceEqDiff, Nat.reduceAdd, Nat.reduceSub, Nat.reduceMul, Nat.reduceLeDiff, Int.reduceLT, Int.reduceLE, Int.reduceEq, ↓reduceIte, Int.reduceNeg, Int.reduceAdd, Int.reduceSub, Int.reduceMul, true_imp_iff, forall_const, Nat.mul_one, Int.reduceToNat, Nat.reducePow, Int.reducePow, Bool.true_and, Bool.false_and, Bool.and_false]
  refine hc.use ?_
  simp (disch := first | assumption | omega | (simp only [List.length_append, List.length_cons, List.length_nil]; omega)) only [go_sem, reduceCtorEq, Nat.reduceEqDiff, Nat.reduceAdd, Nat.reduceSub, Nat.reduceMul, Nat.reduceLeDiff, Int.reduceLT, Int.reduceLE, Int.reduceEq, ↓reduceIte, Int.reduceNeg, Int.reduceAdd, Int.reduceSub, Int.reduceMul, true_imp_iff, forall_const, Nat.mul_one, Int.reduceToNat, Nat.reducePow, Int.reducePow, Bool.true_and, Bool.false_and, Bool.and_false]
  refine hsn.mono ?_
  rintro v σ' ⟨rfl, rfl⟩
  simp (disch := first | assumption | omega | (simp only [List.length_append, List.length_cons, List.length_nil]; omega)) only [go_sem, reduceCtorEq, Nat.reduceEqDiff, Nat.reduceAdd, Nat.reduceSub, Nat.reduceMul, Nat.reduceLeDiff, Int.reduceLT, Int.reduceLE, Int.reduceEq, ↓reduceIte, Int.reduceNeg, Int.reduceAdd, Int.reduceSub, Int.reduceMul, true_imp_iff, forall_const, Nat.mul_one, Int.reduceToNat, Nat.reducePow, Int.reducePow, Bool.true_and, Bool.false_and, Bool.and_false]
  refine (tquote_ok hM s (by omega)).mono ?_
  rintro v σ' ⟨rfl, rfl⟩
  simp (disch := first | assumption | omega | (simp only [List.length_append, List.length_cons, List.length_nil]; omega)) only [go_sem, reduceCtorEq, Nat.reduceEqDiff, Nat.reduceAdd, Nat.reduceSub, Nat.reduceMul, Nat.reduceLeDiff, Int.reduceLT, Int.reduceLE, Int.reduceEq, ↓reduceIte, Int.reduceNeg, Int.reduceAdd, Int.reduceSub, Int.reduceMul, true_imp_iff, forall_const, Nat.mul_one, Int.reduceToNat, Nat.reducePow, Int.reducePow, Bool.true_and, Bool.false_and, Bool.and_false]
  refine (lex_ok hU (34 :: dbl s ++ [34]) (by simp; omega)).mono ?_
  rintro v σ' ⟨rfl, rfl⟩
  cases hsg : sgP s with
  | none =>
    rw [hsg] at law
    obtain ⟨j, h1⟩ := law
    rw [h1]
    simp (disch := first | assumption | omega | (simp only [List.length_append, List.length_cons, List.length_nil]; omega)) only [go_sem, reduceCtorEq, Nat.reduceEqDiff, Nat.reduceAdd, Nat.reduceSub, Nat.reduceMul, Nat.reduceLeDiff, Int.reduceLT, Int.reduceLE, Int.reduceEq, ↓reduceIte, Int.reduceNeg, Int.reduceAdd, Int.reduceSub, Int.reduceMul, true_imp_iff, forall_const, Nat.mul_one, Int.reduceToNat, Nat.reducePow, Int.reducePow, Bool.true_and, Bool.false_and, Bool.and_false]
    refine (tawake_ok hU).mono ?_
    rintro v σ' ⟨rfl, rfl⟩
    simp (disch := first | assumption | omega | (simp only [List.length_append, List.length_cons, List.length_nil]; omega)) only [go_sem, reduceCtorEq, Nat.reduceEqDiff, Nat.reduceAdd, Nat.reduceSub, Nat.reduceMul, Nat.reduceLeDiff, Int.reduceLT, Int.reduceLE, Int.reduceEq, ↓reduceIte, Int.reduceNeg, Int.reduceAdd, Int.reduceSub, Int.reduceMul, true_imp_iff, forall_const, Nat.mul_one, Int.reduceToNat, Nat.reducePow, Int.reducePow, Bool.true_and, Bool.false_and, Bool.and_false]
    exact retC_by (Drop.refl _) (.refl _) ⟨rfl, rfl⟩
  | some m =>
    rw [hsg] at law
    obtain ⟨E, h1⟩ := law
    rw [h1]
    simp (disch := first | assumption | omega | (simp only [List.length_append, List.length_cons, List.length_nil]; omega)) only [go_sem, reduceCtorEq, Nat.reduceEqDiff, Nat.reduceAdd, Nat.reduceSub, Nat.reduceMul, Nat.reduceLeDiff, Int.reduceLT, Int.reduceLE, Int.reduceEq, ↓reduceIte, Int.reduceNeg, Int.reduceAdd, Int.reduceSub, Int.reduceMul, true_imp_iff, forall_const, Nat.mul_one, Int.reduceToNat, Nat.reducePow, Int.reducePow, Bool.true_and, Bool.false_and, Bool.and_false]
    refine (tawake_ok hU).mono ?_
    rintro v σ' ⟨rfl, rfl⟩
    have i1 : (([⟨2, s, 0, 0⟩, E] : List Tok).map tokAV)[0]? = some (.agg [.int .i64 2, .str s, .int .i64 0, .int .i64 0]) := rfl
    simp (disch := first | assumption | omega | (simp only [List.length_append, List.length_cons, List.length_nil]; omega)) only [go_sem, reduceCtorEq, Nat.reduceEqDiff, Nat.reduceAdd, Nat.reduceSub, Nat.reduceMul, Nat.reduceLeDiff, Int.reduceLT, Int.reduceLE, Int.reduceEq, ↓reduceIte, Int.reduceNeg, Int.reduceAdd, Int.reduceSub, Int.reduceMul, true_imp_iff, forall_const, Nat.mul_one, Int.reduceToNat, Nat.reducePow, Int.reducePow, Bool.true_and, Bool.false_and, Bool.and_false, i1, tokAV]
    exact retC_by (Drop.refl _) (.refl _) ⟨rfl, rfl⟩
end Go.A
