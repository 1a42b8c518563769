/- Decimals walked: rounding, floors, quotients, texts. · Parse walked; the awake call; DeciBack. -/
import Derived.Test.YtkfcfpnkgljdmaaDoorHd
import Derived.Test.YtkfcfpnkgljdmaaDoorCodeH
namespace Go.A
open Go.Proofs
set_option maxRecDepth 100000
set_option linter.unusedSimpArgs false
set_option linter.unusedVariables false

/-- What quot computes of a number of 64 bits. -/
def quoN (lo y : Nat) : Nat := if y - lo % y ≤ lo % y then lo / y + 1 else lo / y
theorem dtext_ok {σ : ASt} (h : Tab σ) {a : Int} (ha : a.natAbs ≤ 999999999999999999) : ACalls Tryd.prog 24 [.int .i64 a] σ fun v σ' => v = .str (textD a) ∧ σ' = σ := by
  have hS := size_ok a (by omega) (by omega)
  obtain ⟨T, hT⟩ : ∃ T, textD a = T := ⟨_, rfl⟩
  rw [hT]
  unfold textD placesP at hT
  obtain ⟨s, hs⟩ : ∃ s, a.natAbs = s := ⟨_, rfl⟩
  rw [hs] at hS hT ha
  have hd : (s : Int).tdiv 10000 = ((s / 10000 : Nat) : Int) := by rw [Int.tdiv_eq_ediv_of_nonneg (by omega)]; rfl
  have hm : (s : Int).tmod 10000 = ((s % 10000 : Nat) : Int) := by rw [Int.tmod_eq_emod_of_nonneg (by omega)]; rfl
  have hp : s % 10000 < 10000 := Nat.mod_lt _ (by omega)
  have hw : s / 10000 ≤ 99999999999999 := by omega
  obtain ⟨p, hpp⟩ : ∃ p, s % 10000 = p := ⟨_, rfl⟩
  obtain ⟨q, hqq⟩ : ∃ q, s / 10000 = q := ⟨_, rfl⟩
  rw [hpp] at hp hm hT
  rw [hqq] at hd hw hT
  have hqw : IntKind.u64.wrap (q : Int) = q := by rw [IntKind.wrap_u64]; omega
  refine a24 (by simp) ?_
  simp (disch := first | assumption | omega | (simp only [List.length_append, List.length_cons, List.length_nil]; omega)) only [go_sem, reduceCtorEq, Nat.reduceEqDiff, Nat.reduceAdd, Nat.reduceSub, Nat.reduceMul, Nat.reduceLeDiff, Int.reduceLT, Int.reduceLE, Int.reduceEq, ↓reduceIte, Int.reduceNeg, Int.reduceAdd, Int.reduceSub, Int.reduceMul, true_imp_iff, forall_const, Nat.mul_one, Int.reduceToNat, Nat.reducePow, Int.reducePow, Bool.true_and, Bool.false_and, Bool.and_false]
  refine hS.use ?_
  simp (disch := first | assumption | omega | (simp only [List.length_append, List.length_cons, List.length_nil]; omega)) only [go_sem, reduceCtorEq, Nat.reduceEqDiff, Nat.reduceAdd, Nat.reduceSub, Nat.reduceMul, Nat.reduceLeDiff, Int.reduceLT, Int.reduceLE, Int.reduceEq, ↓reduceIte, Int.reduceNeg, Int.reduceAdd, Int.reduceSub, Int.reduceMul, true_imp_iff, forall_const, Nat.mul_one, Int.reduceToNat, Nat.reducePow, Int.reducePow, Bool.true_and, Bool.false_and, Bool.and_false, hd, hqw]
  refine (fmt_ok h (u := q) (by omega)).mono ?_
  rintro v σ' ⟨rfl, rfl⟩
  simp (disch := first | assumption | omega | (simp only [List.length_append, List.length_cons, List.length_nil]; omega)) only [go_sem, reduceCtorEq, Nat.reduceEqDiff, Nat.reduceAdd, Nat.reduceSub, Nat.reduceMul, Nat.reduceLeDiff, Int.reduceLT, Int.reduceLE, Int.reduceEq, ↓reduceIte, Int.reduceNeg, Int.reduceAdd, Int.reduceSub, Int.reduceMul, true_imp_iff, forall_const, Nat.mul_one, Int.reduceToNat, Nat.reducePow, Int.reducePow, Bool.true_and, Bool.false_and, Bool.and_false, hm]
  have hql : (Lib.decDigits q).length ≤ 15 := dd_len 14 q (by omega)
  by_cases h0 : p = 0
  · subst h0
    rw [if_pos rfl, List.append_nil] at hT
    have g0 : ¬ (0 : Int) < ((0 : Nat) : Int) := by omega
    simp (disch := first | assumption | omega | (simp only [List.length_append, List.length_cons, List.length_nil]; omega)) only [go_sem, reduceCtorEq, Nat.reduceEqDiff, Nat.reduceAdd, Nat.reduceSub, Nat.reduceMul, Nat.reduceLeDiff, Int.reduceLT, Int.reduceLE, Int.reduceEq, ↓reduceIte, Int.reduceNeg, Int.reduceAdd, Int.reduceSub, Int.reduceMul, true_imp_iff, forall_const, Nat.mul_one, Int.reduceToNat, Nat.reducePow, Int.reducePow, Bool.true_and, Bool.false_and, Bool.and_false, g0]
    by_cases hn : a < 0
    · have e1 : binS .add [45] (Lib.decDigits q) = some (.str T) := by rw [binS_add (by simp; omega), ← hT, if_pos hn]
      simp (disch := first | assumption | omega | (simp only [List.length_append, List.length_cons, List.length_nil]; omega)) only [go_sem, reduceCtorEq, Nat.reduceEqDiff, Nat.reduceAdd, Nat.reduceSub, Nat.reduceMul, Nat.reduceLeDiff, Int.reduceLT, Int.reduceLE, Int.reduceEq, ↓reduceIte, Int.reduceNeg, Int.reduceAdd, Int.reduceSub, Int.reduceMul, true_imp_iff, forall_const, Nat.mul_one, Int.reduceToNat, Nat.reducePow, Int.reducePow, Bool.true_and, Bool.false_and, Bool.and_false, hn, e1]
      exact retC_by (by repeat' (first | exact Drop.refl _ | with_reducible refine Drop.off ?_ (by assumption))) (.refl _) ⟨rfl, rfl⟩
    · rw [if_neg hn, List.nil_append] at hT
      subst hT
      simp (disch := first | assumption | omega | (simp only [List.length_append, List.length_cons, List.length_nil]; omega)) only [go_sem, reduceCtorEq, Nat.reduceEqDiff, Nat.reduceAdd, Nat.reduceSub, Nat.reduceMul, Nat.reduceLeDiff, Int.reduceLT, Int.reduceLE, Int.reduceEq, ↓reduceIte, Int.reduceNeg, Int.reduceAdd, Int.reduceSub, Int.reduceMul, true_imp_iff, forall_const, Nat.mul_one, Int.reduceToNat, Nat.reducePow, Int.reducePow, Bool.true_and, Bool.false_and, Bool.and_false, hn]
      exact retC_by (by repeat' (first | exact Drop.refl _ | with_reducible refine Drop.off ?_ (by assumption))) (.refl _) ⟨rfl, rfl⟩
  · rw [if_neg h0] at hT
    have g0 : (0 : Int) < (p : Int) := by omega
    have hDl : (Lib.decDigits (10000 + p)).length ≤ 5 := dd_len 4 _ (by omega)
    have hD1 : 1 ≤ (Lib.decDigits (10000 + p)).length := List.length_pos_iff.2 (dd_len_pos _)
    have hF := fmt_ok h (u := 10000 + p) (by omega)
    rw [show (((10000 + p : Nat) : Int)) = (10000 : Int) + p by omega] at hF
    have htl : (Lib.decDigits (10000 + p)).tail.length ≤ 4 := by rw [List.length_tail]; omega
    rw [← List.drop_one] at hT htl
    generalize Lib.decDigits (10000 + p) = D at *
    have hR := trimRight_ok (D.drop 1) 48 (by decide) (by omega)
    have hRl : (Lib.trimRightB (D.drop 1) 48).length ≤ 4 := by
      have := congrArg List.length (trim_back 48 (D.drop 1))
      rw [List.length_append] at this
      omega
    generalize Lib.trimRightB (D.drop 1) 48 = X at *
    have e1 : binS .add [46] X = some (.str (46 :: X)) := binS_add (by simp; omega)
    have e2 : binS .add (Lib.decDigits q) (46 :: X) = some (.str (Lib.decDigits q ++ 46 :: X)) := binS_add (by simp; omega)
    have g5 : (1 : Int) ≤ D.length := by omega
    simp (disch := first | assumption | omega | (simp only [List.length_append, List.length_cons, List.length_nil]; omega)) only [go_sem, reduceCtorEq, Nat.reduceEqDiff, Nat.reduceAdd, Nat.reduceSub, Nat.reduceMul, Nat.reduceLeDiff, Int.reduceLT, Int.reduceLE, Int.reduceEq, ↓reduceIte, Int.reduceNeg, Int.reduceAdd, Int.reduceSub, Int.reduceMul, true_imp_iff, forall_const, Nat.mul_one, Int.reduceToNat, Nat.reducePow, Int.reducePow, Bool.true_and, Bool.false_and, Bool.and_false, g0]
    refine hF.mono ?_
    rintro v σ' ⟨rfl, rfl⟩
    simp (disch := first | assumption | omega | (simp only [List.length_append, List.length_cons, List.length_nil]; omega)) only [go_sem, reduceCtorEq, Nat.reduceEqDiff, Nat.reduceAdd, Nat.reduceSub, Nat.reduceMul, Nat.reduceLeDiff, Int.reduceLT, Int.reduceLE, Int.reduceEq, ↓reduceIte, Int.reduceNeg, Int.reduceAdd, Int.reduceSub, Int.reduceMul, true_imp_iff, forall_const, Nat.mul_one, Int.reduceToNat, Nat.reducePow, Int.reducePow, Bool.true_and, Bool.false_and, Bool.and_false, g5, List.take_length]
    refine hR.use ?_
    simp (disch := first | assumption | omega | (simp only [List.length_append, List.length_cons, List.length_nil]; omega)) only [go_sem, reduceCtorEq, Nat.reduceEqDiff, Nat.reduceAdd, Nat.reduceSub, Nat.reduceMul, Nat.reduceLeDiff, Int.reduceLT, Int.reduceLE, Int.reduceEq, ↓reduceIte, Int.reduceNeg, Int.reduceAdd, Int.reduceSub, Int.reduceMul, true_imp_iff, forall_const, Nat.mul_one, Int.reduceToNat, Nat.reducePow, Int.reducePow, Bool.true_and, Bool.false_and, Bool.and_false, e1, e2]
    by_cases hn : a < 0
    · have e3 : binS .add [45] (Lib.decDigits q ++ 46 :: X) = some (.str T) := by rw [binS_add (by simp; omega), ← hT, if_pos hn]
      simp (disch := first | assumption | omega | (simp only [List.length_append, List.length_cons, List.length_nil]; omega)) only [go_sem, reduceCtorEq, Nat.reduceEqDiff, Nat.reduceAdd, Nat.reduceSub, Nat.reduceMul, Nat.reduceLeDiff, Int.reduceLT, Int.reduceLE, Int.reduceEq, ↓reduceIte, Int.reduceNeg, Int.reduceAdd, Int.reduceSub, Int.reduceMul, true_imp_iff, forall_const, Nat.mul_one, Int.reduceToNat, Nat.reducePow, Int.reducePow, Bool.true_and, Bool.false_and, Bool.and_false, hn, e3]
      exact retC_by (by repeat' (first | exact Drop.refl _ | with_reducible refine Drop.off ?_ (by assumption))) (.refl _) ⟨rfl, rfl⟩
    · rw [if_neg hn, List.nil_append] at hT
      subst hT
      simp (disch := first | assumption | omega | (simp only [List.length_append, List.length_cons, List.length_nil]; omega)) only [go_sem, reduceCtorEq, Nat.reduceEqDiff, Nat.reduceAdd, Nat.reduceSub, Nat.reduceMul, Nat.reduceLeDiff, Int.reduceLT, Int.reduceLE, Int.reduceEq, ↓reduceIte, Int.reduceNeg, Int.reduceAdd, Int.reduceSub, Int.reduceMul, true_imp_iff, forall_const, Nat.mul_one, Int.reduceToNat, Nat.reducePow, Int.reducePow, Bool.true_and, Bool.false_and, Bool.and_false, hn]
      exact retC_by (by repeat' (first | exact Drop.refl _ | with_reducible refine Drop.off ?_ (by assumption))) (.refl _) ⟨rfl, rfl⟩
end Go.A
namespace Go.A
open Go.Proofs
set_option maxRecDepth 100000
set_option linter.unusedSimpArgs false
set_option linter.unusedVariables false

theorem prefix_minus (s : List UInt8) : Lib.hasPrefix s [45] = decide (s.head? = some 45) := by
  unfold Lib.hasPrefix
  cases s with
  | nil => rfl
  | cons c l =>
    simp only [List.isPrefixOf, Bool.and_true, List.head?_cons, Option.some.injEq]
    by_cases h : c = 45
    · subst h; rfl
    · have h1 : (45 == c) = false := by simpa using fun e => h e.symm
      rw [h1]; simp [h]
theorem trim_minus (s : List UInt8) : Lib.trimPrefix s [45] = if s.head? = some 45 then s.drop 1 else s := by
  unfold Lib.trimPrefix
  rw [prefix_minus]
  by_cases h : s.head? = some 45
  · simp [h]
  · simp [h]
theorem cut_len (l : List UInt8) (c : UInt8) : (Lib.cut l [c]).1.length + (Lib.cut l [c]).2.1.length ≤ l.length := by
  unfold Lib.cut
  split
  · have := Lib.index_room l [c] (by assumption)
    simp at this ⊢
    omega
  · simp
theorem acc_bound : ∀ (l : List UInt8) (n m : Nat), n ≤ 999999999999999999 → accP n l = some m → m ≤ 999999999999999999
  | [], n, m, h, e => by simp [accP] at e; omega
  | c :: l, n, m, h, e => by
    rw [accP] at e
    split at e
    · cases e
    · exact acc_bound l _ m (by omega) e
theorem parse_awake : parseD [45, 50, 46, 53] = some (-25000) := by decide +kernel
theorem round_awake : roundP (-25000) (10 ^ ((4 : Int) - 0).toNat) = some (-30000) := by decide +kernel
theorem text_awake : textD (-25000) = [45, 50, 46, 53] := by
  unfold textD placesP
  rw [show (-25000 : Int).natAbs / 10000 = 2 by decide, show (-25000 : Int).natAbs % 10000 = 5000 by decide, dd_small (by omega), dd_four (by omega)]
  decide +kernel
theorem textD_len {a : Int} (ha : a.natAbs ≤ 999999999999999999) : (textD a).length ≤ 100 := by
  have h1 : (Lib.decDigits (a.natAbs / 10000)).length ≤ 15 := dd_len 14 _ (by omega)
  have h2 : (placesP (a.natAbs % 10000)).length ≤ 10 := by
    unfold placesP
    split
    · simp
    · rw [dd_four (by omega)]
      have := congrArg List.length (trim_back 48 (fourP (a.natAbs % 10000)))
      rw [List.length_append] at this
      have e4 : (fourP (a.natAbs % 10000)).length = 4 := rfl
      simp
      omega
  unfold textD
  simp only [List.length_append]
  split <;> simp <;> omega
theorem whole_ok {a : Int} (ha : a.natAbs ≤ 999999999999999999) : Pure Tryd.prog 43 [.int .i64 a] (.int .i64 (a.tdiv 10000)) := by
  intro σ
  have hqb : (a.tdiv 10000).natAbs ≤ a.natAbs := by rw [Int.natAbs_tdiv]; exact Nat.div_le_self _ _
  have e : IntKind.i64.wrap (a.tdiv 10000) = a.tdiv 10000 := by rw [IntKind.wrap_i64]; omega
  refine a43 (by simp) ?_
  simp (disch := first | assumption | omega | (simp only [List.length_append, List.length_cons, List.length_nil]; omega)) only [go_sem, reduceCtorEq, Nat.reduceEqDiff, Nat.reduceAdd, Nat.reduceSub, Nat.reduceMul, Nat.reduceLeDiff, Int.reduceLT, Int.reduceLE, Int.reduceEq, ↓reduceIte, Int.reduceNeg, Int.reduceAdd, Int.reduceSub, Int.reduceMul, true_imp_iff, forall_const, Nat.mul_one, Int.reduceToNat, Nat.reducePow, Int.reducePow, Bool.true_and, Bool.false_and, Bool.and_false, e]
  exact retC_by (by repeat' (first | exact Drop.refl _ | with_reducible refine Drop.off ?_ (by assumption))) (.refl _) ⟨rfl, rfl⟩
theorem lcut_ok (s : List UInt8) (n : Nat) : Pure Tryd.prog 35 [.str s, .int .i64 n] (.str (s.take n)) := by
  intro σ
  refine a35 (by simp) ?_
  by_cases h : n < s.length
  · have h' : (n : Int) < s.length := by omega
    have g0 : (0 : Int) ≤ n := by omega
    have g1 : (n : Int) ≤ s.length := by omega
    simp (disch := first | assumption | omega | (simp only [List.length_append, List.length_cons, List.length_nil]; omega)) only [go_sem, reduceCtorEq, Nat.reduceEqDiff, Nat.reduceAdd, Nat.reduceSub, Nat.reduceMul, Nat.reduceLeDiff, Int.reduceLT, Int.reduceLE, Int.reduceEq, ↓reduceIte, Int.reduceNeg, Int.reduceAdd, Int.reduceSub, Int.reduceMul, true_imp_iff, forall_const, Nat.mul_one, Int.reduceToNat, Nat.reducePow, Int.reducePow, Bool.true_and, Bool.false_and, Bool.and_false, h', g0, g1]
    exact retC_by (by repeat' (first | exact Drop.refl _ | with_reducible refine Drop.off ?_ (by assumption))) (.refl _) ⟨rfl, rfl⟩
  · have h' : ¬ (n : Int) < s.length := by omega
    rw [List.take_of_length_le (by omega)]
    simp (disch := first | assumption | omega | (simp only [List.length_append, List.length_cons, List.length_nil]; omega)) only [go_sem, reduceCtorEq, Nat.reduceEqDiff, Nat.reduceAdd, Nat.reduceSub, Nat.reduceMul, Nat.reduceLeDiff, Int.reduceLT, Int.reduceLE, Int.reduceEq, ↓reduceIte, Int.reduceNeg, Int.reduceAdd, Int.reduceSub, Int.reduceMul, true_imp_iff, forall_const, Nat.mul_one, Int.reduceToNat, Nat.reducePow, Int.reducePow, Bool.true_and, Bool.false_and, Bool.and_false, h']
    exact retC_by (by repeat' (first | exact Drop.refl _ | with_reducible refine Drop.off ?_ (by assumption))) (.refl _) ⟨rfl, rfl⟩
end Go.A
