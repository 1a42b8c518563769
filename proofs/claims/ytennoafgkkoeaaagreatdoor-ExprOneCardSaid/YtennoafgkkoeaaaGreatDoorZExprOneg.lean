/- Part 7 of what ExprOne leans on: Ze CodeZg Zg CodeEb Eb CodeEc Ec. -/
import Derived.Test.YtennoafgkkoeaaaGreatDoorProg
import Derived.KernelRfl
import Derived.Test.YtennoafgkkoeaaaGreatDoorZExprOnef
namespace Go.A
open Go.Proofs Go.Lib
set_option maxRecDepth 100000
set_option linter.unusedSimpArgs false
set_option linter.unusedVariables false
theorem word_ok (c : UInt8) : Pure Tryz.prog 121 [.int .u8 c.toNat] (.bool (wordB c)) := by
  intro σ
  refine a121 (by simp) ?_
  have hc := c.toNat_lt
  unfold wordB
  repeat' (first | (simp (disch := first | assumption | omega | (simp only [List.length_append, List.length_cons, List.length_nil]; omega)) only [go_sem, reduceCtorEq, Nat.reduceEqDiff, Nat.reduceAdd, Nat.reduceSub, Nat.reduceMul, Nat.reduceLeDiff, Int.reduceLT, Int.reduceLE, Int.reduceEq, ↓reduceIte, Int.reduceNeg, Int.reduceAdd, Int.reduceSub, Int.reduceMul, true_imp_iff, forall_const, Nat.mul_one, Int.reduceToNat, Nat.reducePow, Int.reducePow, Bool.true_and, Bool.false_and, Bool.and_false]) | with_reducible refine gC_d (fun h => ?_) (fun h => ?_) | with_reducible refine gC_dn (fun h => ?_) (fun h => ?_) | with_reducible refine condC_d (fun h => ?_) (fun h => ?_) | with_reducible refine condC_n (fun h => ?_) (fun h => ?_) | with_reducible refine condC_b (fun h => ?_) (fun h => ?_) | with_reducible refine boxC_by ?_ fun b hb => ?_)
  all_goals refine retC_by (Drop.refl _) (.refl _) ⟨?_, rfl⟩
  all_goals (simp only [resV_one]) <;> (congr 1) <;> (rw [Bool.eq_iff_iff]; simp only [decide_eq_true_eq, Bool.false_eq_true, false_iff, true_iff]; omega)
theorem digit_ok (c : UInt8) : Pure Tryz.prog 156 [.int .u8 c.toNat] (.bool (digB c)) := by
  intro σ
  refine a156 (by simp) ?_
  have hc := c.toNat_lt
  unfold digB
  repeat' (first | (simp (disch := first | assumption | omega | (simp only [List.length_append, List.length_cons, List.length_nil]; omega)) only [go_sem, reduceCtorEq, Nat.reduceEqDiff, Nat.reduceAdd, Nat.reduceSub, Nat.reduceMul, Nat.reduceLeDiff, Int.reduceLT, Int.reduceLE, Int.reduceEq, ↓reduceIte, Int.reduceNeg, Int.reduceAdd, Int.reduceSub, Int.reduceMul, true_imp_iff, forall_const, Nat.mul_one, Int.reduceToNat, Nat.reducePow, Int.reducePow, Bool.true_and, Bool.false_and, Bool.and_false]) | with_reducible refine gC_d (fun h => ?_) (fun h => ?_) | with_reducible refine gC_dn (fun h => ?_) (fun h => ?_) | with_reducible refine condC_d (fun h => ?_) (fun h => ?_) | with_reducible refine condC_n (fun h => ?_) (fun h => ?_) | with_reducible refine condC_b (fun h => ?_) (fun h => ?_) | with_reducible refine boxC_by ?_ fun b hb => ?_)
  all_goals refine retC_by (Drop.refl _) (.refl _) ⟨?_, rfl⟩
  all_goals (simp only [resV_one]) <;> (congr 1) <;> (rw [Bool.eq_iff_iff]; simp only [decide_eq_true_eq, Bool.false_eq_true, false_iff, true_iff]; omega)
theorem alike_ok (c : Int) : Pure Tryz.prog 143 [.int .i32 c] (.str (alikeP c)) := by
  intro σ
  refine a143 (by simp) ?_
  unfold alikeP
  by_cases h1 : c = 8804
  · simp (disch := first | assumption | omega | (simp only [List.length_append, List.length_cons, List.length_nil]; omega)) only [go_sem, reduceCtorEq, Nat.reduceEqDiff, Nat.reduceAdd, Nat.reduceSub, Nat.reduceMul, Nat.reduceLeDiff, Int.reduceLT, Int.reduceLE, Int.reduceEq, ↓reduceIte, Int.reduceNeg, Int.reduceAdd, Int.reduceSub, Int.reduceMul, true_imp_iff, forall_const, Nat.mul_one, Int.reduceToNat, Nat.reducePow, Int.reducePow, Bool.true_and, Bool.false_and, Bool.and_false, h1]; exact retC_by (Drop.refl _) (.refl _) ⟨by simp [h1, resV_one], rfl⟩
  by_cases h2 : c = 8805
  · simp (disch := first | assumption | omega | (simp only [List.length_append, List.length_cons, List.length_nil]; omega)) only [go_sem, reduceCtorEq, Nat.reduceEqDiff, Nat.reduceAdd, Nat.reduceSub, Nat.reduceMul, Nat.reduceLeDiff, Int.reduceLT, Int.reduceLE, Int.reduceEq, ↓reduceIte, Int.reduceNeg, Int.reduceAdd, Int.reduceSub, Int.reduceMul, true_imp_iff, forall_const, Nat.mul_one, Int.reduceToNat, Nat.reducePow, Int.reducePow, Bool.true_and, Bool.false_and, Bool.and_false, h1, h2]; exact retC_by (Drop.refl _) (.refl _) ⟨by simp [h1, h2, resV_one], rfl⟩
  by_cases h3 : c = 8800
  · simp (disch := first | assumption | omega | (simp only [List.length_append, List.length_cons, List.length_nil]; omega)) only [go_sem, reduceCtorEq, Nat.reduceEqDiff, Nat.reduceAdd, Nat.reduceSub, Nat.reduceMul, Nat.reduceLeDiff, Int.reduceLT, Int.reduceLE, Int.reduceEq, ↓reduceIte, Int.reduceNeg, Int.reduceAdd, Int.reduceSub, Int.reduceMul, true_imp_iff, forall_const, Nat.mul_one, Int.reduceToNat, Nat.reducePow, Int.reducePow, Bool.true_and, Bool.false_and, Bool.and_false, h1, h2, h3]; exact retC_by (Drop.refl _) (.refl _) ⟨by simp [h1, h2, h3, resV_one], rfl⟩
  by_cases h4 : c = 215
  · simp (disch := first | assumption | omega | (simp only [List.length_append, List.length_cons, List.length_nil]; omega)) only [go_sem, reduceCtorEq, Nat.reduceEqDiff, Nat.reduceAdd, Nat.reduceSub, Nat.reduceMul, Nat.reduceLeDiff, Int.reduceLT, Int.reduceLE, Int.reduceEq, ↓reduceIte, Int.reduceNeg, Int.reduceAdd, Int.reduceSub, Int.reduceMul, true_imp_iff, forall_const, Nat.mul_one, Int.reduceToNat, Nat.reducePow, Int.reducePow, Bool.true_and, Bool.false_and, Bool.and_false, h1, h2, h3, h4]; exact retC_by (Drop.refl _) (.refl _) ⟨by simp [h1, h2, h3, h4, resV_one], rfl⟩
  by_cases h5 : c = 247
  · simp (disch := first | assumption | omega | (simp only [List.length_append, List.length_cons, List.length_nil]; omega)) only [go_sem, reduceCtorEq, Nat.reduceEqDiff, Nat.reduceAdd, Nat.reduceSub, Nat.reduceMul, Nat.reduceLeDiff, Int.reduceLT, Int.reduceLE, Int.reduceEq, ↓reduceIte, Int.reduceNeg, Int.reduceAdd, Int.reduceSub, Int.reduceMul, true_imp_iff, forall_const, Nat.mul_one, Int.reduceToNat, Nat.reducePow, Int.reducePow, Bool.true_and, Bool.false_and, Bool.and_false, h1, h2, h3, h4, h5]; exact retC_by (Drop.refl _) (.refl _) ⟨by simp [h1, h2, h3, h4, h5, resV_one], rfl⟩
  by_cases h6 : c = 8722
  · simp (disch := first | assumption | omega | (simp only [List.length_append, List.length_cons, List.length_nil]; omega)) only [go_sem, reduceCtorEq, Nat.reduceEqDiff, Nat.reduceAdd, Nat.reduceSub, Nat.reduceMul, Nat.reduceLeDiff, Int.reduceLT, Int.reduceLE, Int.reduceEq, ↓reduceIte, Int.reduceNeg, Int.reduceAdd, Int.reduceSub, Int.reduceMul, true_imp_iff, forall_const, Nat.mul_one, Int.reduceToNat, Nat.reducePow, Int.reducePow, Bool.true_and, Bool.false_and, Bool.and_false, h1, h2, h3, h4, h5, h6]; exact retC_by (Drop.refl _) (.refl _) ⟨by simp [h1, h2, h3, h4, h5, h6, resV_one], rfl⟩
  simp (disch := first | assumption | omega | (simp only [List.length_append, List.length_cons, List.length_nil]; omega)) only [go_sem, reduceCtorEq, Nat.reduceEqDiff, Nat.reduceAdd, Nat.reduceSub, Nat.reduceMul, Nat.reduceLeDiff, Int.reduceLT, Int.reduceLE, Int.reduceEq, ↓reduceIte, Int.reduceNeg, Int.reduceAdd, Int.reduceSub, Int.reduceMul, true_imp_iff, forall_const, Nat.mul_one, Int.reduceToNat, Nat.reducePow, Int.reducePow, Bool.true_and, Bool.false_and, Bool.and_false, h1, h2, h3, h4, h5, h6]
  exact retC_by (Drop.refl _) (.refl _) ⟨by simp [h1, h2, h3, h4, h5, h6, resV_one], rfl⟩
theorem isRef_ok (l : List UInt8) (hl : l.length ≤ 9223372036854775000) : Pure Tryz.prog 138 [.str l] (.bool (refB l)) := by
  intro σ
  refine a138 (by simp) ?_
  simp (disch := first | assumption | omega | (simp only [List.length_append, List.length_cons, List.length_nil]; omega)) only [go_sem, reduceCtorEq, Nat.reduceEqDiff, Nat.reduceAdd, Nat.reduceSub, Nat.reduceMul, Nat.reduceLeDiff, Int.reduceLT, Int.reduceLE, Int.reduceEq, ↓reduceIte, Int.reduceNeg, Int.reduceAdd, Int.reduceSub, Int.reduceMul, true_imp_iff, forall_const, Nat.mul_one, Int.reduceToNat, Nat.reducePow, Int.reducePow, Bool.true_and, Bool.false_and, Bool.and_false]
  refine (parse_ok l hl).use ?_
  unfold refB
  obtain ⟨⟨⟨row, col, ar, ac⟩, ok⟩, hq⟩ : ∃ q, parseP l = q := ⟨_, rfl⟩
  rw [hq]
  simp (disch := first | assumption | omega | (simp only [List.length_append, List.length_cons, List.length_nil]; omega)) only [go_sem, reduceCtorEq, Nat.reduceEqDiff, Nat.reduceAdd, Nat.reduceSub, Nat.reduceMul, Nat.reduceLeDiff, Int.reduceLT, Int.reduceLE, Int.reduceEq, ↓reduceIte, Int.reduceNeg, Int.reduceAdd, Int.reduceSub, Int.reduceMul, true_imp_iff, forall_const, Nat.mul_one, Int.reduceToNat, Nat.reducePow, Int.reducePow, Bool.true_and, Bool.false_and, Bool.and_false, refAV]
  refine allocC_by fun b hb => ?_
  simp (disch := first | assumption | omega | (simp only [List.length_append, List.length_cons, List.length_nil]; omega)) only [go_sem, reduceCtorEq, Nat.reduceEqDiff, Nat.reduceAdd, Nat.reduceSub, Nat.reduceMul, Nat.reduceLeDiff, Int.reduceLT, Int.reduceLE, Int.reduceEq, ↓reduceIte, Int.reduceNeg, Int.reduceAdd, Int.reduceSub, Int.reduceMul, true_imp_iff, forall_const, Nat.mul_one, Int.reduceToNat, Nat.reducePow, Int.reducePow, Bool.true_and, Bool.false_and, Bool.and_false]
  exact retC_by (by repeat' (first | exact Drop.refl _ | with_reducible refine Drop.off ?_ (by assumption))) (.refl _) ⟨rfl, rfl⟩
theorem tgreat_ok (l : List UInt8) (hl : l.length < 4611686018427387904) : Pure Tryz.prog 139 [.str l] (.str (greatP l)) := by
  intro σ
  refine a139 (by simp) ?_
  simp (disch := first | assumption | omega | (simp only [List.length_append, List.length_cons, List.length_nil]; omega)) only [go_sem, reduceCtorEq, Nat.reduceEqDiff, Nat.reduceAdd, Nat.reduceSub, Nat.reduceMul, Nat.reduceLeDiff, Int.reduceLT, Int.reduceLE, Int.reduceEq, ↓reduceIte, Int.reduceNeg, Int.reduceAdd, Int.reduceSub, Int.reduceMul, true_imp_iff, forall_const, Nat.mul_one, Int.reduceToNat, Nat.reducePow, Int.reducePow, Bool.true_and, Bool.false_and, Bool.and_false]
  refine s2b_own fun b cp hb hcp => ?_
  simp (disch := first | assumption | omega | (simp only [List.length_append, List.length_cons, List.length_nil]; omega)) only [go_sem, reduceCtorEq, Nat.reduceEqDiff, Nat.reduceAdd, Nat.reduceSub, Nat.reduceMul, Nat.reduceLeDiff, Int.reduceLT, Int.reduceLE, Int.reduceEq, ↓reduceIte, Int.reduceNeg, Int.reduceAdd, Int.reduceSub, Int.reduceMul, true_imp_iff, forall_const, Nat.mul_one, Int.reduceToNat, Nat.reducePow, Int.reducePow, Bool.true_and, Bool.false_and, Bool.and_false]
  refine wp_loop_on (fun (i : Nat) a σ' => i ≤ l.length ∧ (a 3 = .msl b 0 l.length cp ∧ a 8 = .msl b 0 l.length cp ∧ a 9 = .int .i64 l.length ∧ a 10 = .int .i64 i) ∧ σ' = σ.set b (some (.obj (bytesAV (greatP (l.take i) ++ l.drop i)))))
    (fun i => l.length - i) 0 ⟨Nat.zero_le _, ?_, by simp [greatP]⟩ ?_
  · simp (disch := first | assumption | omega | (simp only [List.length_append, List.length_cons, List.length_nil]; omega)) only [go_sem, reduceCtorEq, Nat.reduceEqDiff, Nat.reduceAdd, Nat.reduceSub, Nat.reduceMul, Nat.reduceLeDiff, Int.reduceLT, Int.reduceLE, Int.reduceEq, ↓reduceIte, Int.reduceNeg, Int.reduceAdd, Int.reduceSub, Int.reduceMul, true_imp_iff, forall_const, Nat.mul_one, Int.reduceToNat, Nat.reducePow, Int.reducePow, Bool.true_and, Bool.false_and, Bool.and_false]
  rintro i a σ1 ⟨hi, hf, rfl⟩
  obtain ⟨m, hm⟩ : ∃ m, greatP (l.take i) ++ l.drop i = m := ⟨_, rfl⟩
  have hml : m.length = l.length := by rw [← hm]; simp [greatP]; omega
  have hgl : (greatP (l.take i)).length = i := by simp [greatP]; omega
  rw [hm]
  by_cases hlt : i < l.length
  · have hidx : m[i]? = some (l[i]'hlt) := by rw [← hm, List.getElem?_append_right (by omega), hgl]; simp
    obtain ⟨c, hc⟩ : ∃ c, l[i]'hlt = c := ⟨_, rfl⟩
    rw [hc] at hidx
    have hcb := u8_lt c
    have hi2 : (i : Int) < l.length := by omega
    have hle : i + 1 ≤ m.length := by omega
    have hnext : greatP (l.take (i + 1)) ++ l.drop (i + 1) = m.set i (greatC c) := by
      rw [← hm, List.take_succ_eq_append_getElem hlt, hc, List.set_append_right _ _ (by omega), hgl, Nat.sub_self]
      simp only [greatP, List.map_append, List.map_cons, List.map_nil, List.append_assoc, List.singleton_append]
      rw [List.drop_eq_getElem_cons hlt]
      rfl
    by_cases hg : 97 ≤ c.toNat ∧ c.toNat ≤ 122
    · have g1 : (97 : Int) ≤ c.toNat := by omega
      have g2 : (c.toNat : Int) ≤ 122 := by omega
      have hgc : greatC c = UInt8.ofNat (c.toNat - 32) := by unfold greatC; rw [if_pos hg]
      have hw := set_bytes (l := m) (i := i) (m := (c.toNat : Int) - 32) (by omega)
      have hw0 : (c.toNat : Int) - 32 = ((UInt8.ofNat (c.toNat - 32)).toNat : Int) := by rw [u8_nat (by omega)]; omega
      rw [hw0, bytes_set] at hw
      simp (disch := first | assumption | omega | (simp only [List.length_append, List.length_cons, List.length_nil]; omega)) only [go_sem, reduceCtorEq, Nat.reduceEqDiff, Nat.reduceAdd, Nat.reduceSub, Nat.reduceMul, Nat.reduceLeDiff, Int.reduceLT, Int.reduceLE, Int.reduceEq, ↓reduceIte, Int.reduceNeg, Int.reduceAdd, Int.reduceSub, Int.reduceMul, true_imp_iff, forall_const, Nat.mul_one, Int.reduceToNat, Nat.reducePow, Int.reducePow, Bool.true_and, Bool.false_and, Bool.and_false, hf, hi2, hidx, g1, g2, hle, hw0, hw]
      refine ⟨i + 1, by omega, by omega, ?_, by rw [hnext, hgc]⟩
      simp (disch := first | assumption | omega | (simp only [List.length_append, List.length_cons, List.length_nil]; omega)) only [go_sem, reduceCtorEq, Nat.reduceEqDiff, Nat.reduceAdd, Nat.reduceSub, Nat.reduceMul, Nat.reduceLeDiff, Int.reduceLT, Int.reduceLE, Int.reduceEq, ↓reduceIte, Int.reduceNeg, Int.reduceAdd, Int.reduceSub, Int.reduceMul, true_imp_iff, forall_const, Nat.mul_one, Int.reduceToNat, Nat.reducePow, Int.reducePow, Bool.true_and, Bool.false_and, Bool.and_false, hf]
    · have hgc : greatC c = c := by unfold greatC; rw [if_neg hg]
      have hms : m.set i c = m := by
        apply List.ext_getElem?
        intro j
        rw [List.getElem?_set]
        split
        · rename_i h; subst h; rw [hidx]; split <;> first | rfl | omega
        · rfl
      by_cases g1 : (97 : Int) ≤ c.toNat
      · have g2 : ¬ (c.toNat : Int) ≤ 122 := by omega
        simp (disch := first | assumption | omega | (simp only [List.length_append, List.length_cons, List.length_nil]; omega)) only [go_sem, reduceCtorEq, Nat.reduceEqDiff, Nat.reduceAdd, Nat.reduceSub, Nat.reduceMul, Nat.reduceLeDiff, Int.reduceLT, Int.reduceLE, Int.reduceEq, ↓reduceIte, Int.reduceNeg, Int.reduceAdd, Int.reduceSub, Int.reduceMul, true_imp_iff, forall_const, Nat.mul_one, Int.reduceToNat, Nat.reducePow, Int.reducePow, Bool.true_and, Bool.false_and, Bool.and_false, hf, hi2, hidx, g1, g2]
        refine ⟨i + 1, by omega, by omega, ?_, by rw [hnext, hgc, hms]⟩
        simp (disch := first | assumption | omega | (simp only [List.length_append, List.length_cons, List.length_nil]; omega)) only [go_sem, reduceCtorEq, Nat.reduceEqDiff, Nat.reduceAdd, Nat.reduceSub, Nat.reduceMul, Nat.reduceLeDiff, Int.reduceLT, Int.reduceLE, Int.reduceEq, ↓reduceIte, Int.reduceNeg, Int.reduceAdd, Int.reduceSub, Int.reduceMul, true_imp_iff, forall_const, Nat.mul_one, Int.reduceToNat, Nat.reducePow, Int.reducePow, Bool.true_and, Bool.false_and, Bool.and_false, hf]
      · simp (disch := first | assumption | omega | (simp only [List.length_append, List.length_cons, List.length_nil]; omega)) only [go_sem, reduceCtorEq, Nat.reduceEqDiff, Nat.reduceAdd, Nat.reduceSub, Nat.reduceMul, Nat.reduceLeDiff, Int.reduceLT, Int.reduceLE, Int.reduceEq, ↓reduceIte, Int.reduceNeg, Int.reduceAdd, Int.reduceSub, Int.reduceMul, true_imp_iff, forall_const, Nat.mul_one, Int.reduceToNat, Nat.reducePow, Int.reducePow, Bool.true_and, Bool.false_and, Bool.and_false, hf, hi2, hidx, g1]
        refine ⟨i + 1, by omega, by omega, ?_, by rw [hnext, hgc, hms]⟩
        simp (disch := first | assumption | omega | (simp only [List.length_append, List.length_cons, List.length_nil]; omega)) only [go_sem, reduceCtorEq, Nat.reduceEqDiff, Nat.reduceAdd, Nat.reduceSub, Nat.reduceMul, Nat.reduceLeDiff, Int.reduceLT, Int.reduceLE, Int.reduceEq, ↓reduceIte, Int.reduceNeg, Int.reduceAdd, Int.reduceSub, Int.reduceMul, true_imp_iff, forall_const, Nat.mul_one, Int.reduceToNat, Nat.reducePow, Int.reducePow, Bool.true_and, Bool.false_and, Bool.and_false, hf]
  · have hi2 : ¬ (i : Int) < l.length := by omega
    have hle2 : l.length ≤ m.length := by omega
    have htk := bytes_all hml
    simp (disch := first | assumption | omega | (simp only [List.length_append, List.length_cons, List.length_nil]; omega)) only [go_sem, reduceCtorEq, Nat.reduceEqDiff, Nat.reduceAdd, Nat.reduceSub, Nat.reduceMul, Nat.reduceLeDiff, Int.reduceLT, Int.reduceLE, Int.reduceEq, ↓reduceIte, Int.reduceNeg, Int.reduceAdd, Int.reduceSub, Int.reduceMul, true_imp_iff, forall_const, Nat.mul_one, Int.reduceToNat, Nat.reducePow, Int.reducePow, Bool.true_and, Bool.false_and, Bool.and_false, hf, hi2, hle2, htk]
    refine retC_by (by repeat' (first | exact Drop.refl _ | with_reducible refine Drop.off ?_ (by assumption))) (.refl _) ⟨?_, rfl⟩
    rw [← hm, List.take_of_length_le (by omega), List.drop_eq_nil_of_le (by omega), List.append_nil]
    rfl
theorem errs_ok : Pure Tryz.prog 51 [] (.sl .full (errTexts.map AV.str)) := by
  intro σ
  refine a51 (by simp) ?_
  simp (disch := first | assumption | omega | (simp only [List.length_append, List.length_cons, List.length_nil]; omega)) only [go_sem, reduceCtorEq, Nat.reduceEqDiff, Nat.reduceAdd, Nat.reduceSub, Nat.reduceMul, Nat.reduceLeDiff, Int.reduceLT, Int.reduceLE, Int.reduceEq, ↓reduceIte, Int.reduceNeg, Int.reduceAdd, Int.reduceSub, Int.reduceMul, true_imp_iff, forall_const, Nat.mul_one, Int.reduceToNat, Nat.reducePow, Int.reducePow, Bool.true_and, Bool.false_and, Bool.and_false]
  exact retC_by (by repeat' (first | exact Drop.refl _ | with_reducible refine Drop.off ?_ (by assumption))) (.refl _) ⟨rfl, rfl⟩
theorem index_dot : ∀ l : List UInt8, (cutDot l).2 = none ∧ indexByte l 46 = -1 ∧ (cutDot l).1 = l ∨ ∃ (i : Nat) (p : List UInt8), indexByte l 46 = i ∧ i < l.length ∧ cutDot l = (l.take i, some p) ∧ p = l.drop (i + 1)
  | [] => .inl ⟨rfl, rfl, rfl⟩
  | c :: l => by
    unfold indexByte cutDot
    by_cases hc : c.toNat = 46
    · have : c = 46 := by apply UInt8.toNat_inj.1; simpa using hc
      subst this
      exact .inr ⟨0, l, by simp, by simp, by simp, by simp⟩
    · have hne : ¬ (c == 46) = true := by
        intro h
        rw [beq_iff_eq] at h
        subst h
        exact hc rfl
      rw [if_neg hc, if_neg hne]
      rcases index_dot l with ⟨h1, h2, h3⟩ | ⟨i, p, h1, h2, h3, h4⟩
      · exact .inl ⟨h1, by rw [h2]; rfl, by rw [h3]⟩
      · refine .inr ⟨i + 1, p, ?_, by simpa using h2, ?_, by simpa using h4⟩
        · rw [h1, if_neg (by rw [beq_iff_eq]; omega)]; rfl
        · rw [h3]; rfl
theorem cutdot_ok (l : List UInt8) (hl : l.length ≤ 1000000000) : Pure Tryz.prog 155 [.str l, .str [46]] (.tuple [.str (cutDot l).1, .str ((cutDot l).2.getD []), .bool (cutDot l).2.isSome]) := by
  have h1 : Pure Tryz.prog 162 [.str l, .str [46]] (.tuple [.str (cutDot l).1, .str ((cutDot l).2.getD []), .bool (cutDot l).2.isSome]) := by
    intro σ
    refine a162 (by simp) ?_
    rcases index_dot l with ⟨h1, h2, h3⟩ | ⟨i, p, h1, h2, h3, h4⟩
    · rw [h1, h3]
      simp (disch := first | assumption | omega | (simp only [List.length_append, List.length_cons, List.length_nil]; omega)) only [go_sem, reduceCtorEq, Nat.reduceEqDiff, Nat.reduceAdd, Nat.reduceSub, Nat.reduceMul, Nat.reduceLeDiff, Int.reduceLT, Int.reduceLE, Int.reduceEq, ↓reduceIte, Int.reduceNeg, Int.reduceAdd, Int.reduceSub, Int.reduceMul, true_imp_iff, forall_const, Nat.mul_one, Int.reduceToNat, Nat.reducePow, Int.reducePow, Bool.true_and, Bool.false_and, Bool.and_false]
      refine (index_ok l 46).use ?_
      rw [h2]
      simp (disch := first | assumption | omega | (simp only [List.length_append, List.length_cons, List.length_nil]; omega)) only [go_sem, reduceCtorEq, Nat.reduceEqDiff, Nat.reduceAdd, Nat.reduceSub, Nat.reduceMul, Nat.reduceLeDiff, Int.reduceLT, Int.reduceLE, Int.reduceEq, ↓reduceIte, Int.reduceNeg, Int.reduceAdd, Int.reduceSub, Int.reduceMul, true_imp_iff, forall_const, Nat.mul_one, Int.reduceToNat, Nat.reducePow, Int.reducePow, Bool.true_and, Bool.false_and, Bool.and_false]
      exact retC_by (by repeat' (first | exact Drop.refl _ | with_reducible refine Drop.off ?_ (by assumption))) (.refl _) ⟨rfl, rfl⟩
    · rw [h3]
      subst h4
      have e1 : (0 : Int) ≤ i := by omega
      have e2 : ((i : Int) + 1).toNat = i + 1 := by omega
      simp (disch := first | assumption | omega | (simp only [List.length_append, List.length_cons, List.length_nil]; omega)) only [go_sem, reduceCtorEq, Nat.reduceEqDiff, Nat.reduceAdd, Nat.reduceSub, Nat.reduceMul, Nat.reduceLeDiff, Int.reduceLT, Int.reduceLE, Int.reduceEq, ↓reduceIte, Int.reduceNeg, Int.reduceAdd, Int.reduceSub, Int.reduceMul, true_imp_iff, forall_const, Nat.mul_one, Int.reduceToNat, Nat.reducePow, Int.reducePow, Bool.true_and, Bool.false_and, Bool.and_false]
      refine (index_ok l 46).use ?_
      rw [h1]
      simp (disch := first | assumption | omega | (simp only [List.length_append, List.length_cons, List.length_nil]; omega)) only [go_sem, reduceCtorEq, Nat.reduceEqDiff, Nat.reduceAdd, Nat.reduceSub, Nat.reduceMul, Nat.reduceLeDiff, Int.reduceLT, Int.reduceLE, Int.reduceEq, ↓reduceIte, Int.reduceNeg, Int.reduceAdd, Int.reduceSub, Int.reduceMul, true_imp_iff, forall_const, Nat.mul_one, Int.reduceToNat, Nat.reducePow, Int.reducePow, Bool.true_and, Bool.false_and, Bool.and_false, e1, e2, List.take_length]
      exact retC_by (by repeat' (first | exact Drop.refl _ | with_reducible refine Drop.off ?_ (by assumption))) (.refl _) ⟨rfl, rfl⟩
  intro σ
  refine a155 (by simp) ?_
  simp (disch := first | assumption | omega | (simp only [List.length_append, List.length_cons, List.length_nil]; omega)) only [go_sem, reduceCtorEq, Nat.reduceEqDiff, Nat.reduceAdd, Nat.reduceSub, Nat.reduceMul, Nat.reduceLeDiff, Int.reduceLT, Int.reduceLE, Int.reduceEq, ↓reduceIte, Int.reduceNeg, Int.reduceAdd, Int.reduceSub, Int.reduceMul, true_imp_iff, forall_const, Nat.mul_one, Int.reduceToNat, Nat.reducePow, Int.reducePow, Bool.true_and, Bool.false_and, Bool.and_false]
  refine h1.use ?_
  simp (disch := first | assumption | omega | (simp only [List.length_append, List.length_cons, List.length_nil]; omega)) only [go_sem, reduceCtorEq, Nat.reduceEqDiff, Nat.reduceAdd, Nat.reduceSub, Nat.reduceMul, Nat.reduceLeDiff, Int.reduceLT, Int.reduceLE, Int.reduceEq, ↓reduceIte, Int.reduceNeg, Int.reduceAdd, Int.reduceSub, Int.reduceMul, true_imp_iff, forall_const, Nat.mul_one, Int.reduceToNat, Nat.reducePow, Int.reducePow, Bool.true_and, Bool.false_and, Bool.and_false]
  exact retC_by (by repeat' (first | exact Drop.refl _ | with_reducible refine Drop.off ?_ (by assumption))) (.refl _) ⟨rfl, rfl⟩
theorem cutDot_len (l : List UInt8) : (cutDot l).1.length + ((cutDot l).2.getD []).length ≤ l.length := by
  rcases index_dot l with ⟨h1, h2, h3⟩ | ⟨i, p, h1, h2, h3, h4⟩
  · rw [h1, h3]; simp
  · rw [h3, h4]; simp; omega
theorem isNum_ok (l : List UInt8) (hl : l.length ≤ 1000000000) : Pure Tryz.prog 137 [.str l] (.bool (numB l)) := by
  intro σ
  have hcd := cutdot_ok l hl
  have hlen := cutDot_len l
  obtain ⟨R, hR⟩ : ∃ R, numB l = R := ⟨_, rfl⟩
  rw [hR]
  refine a137 (by simp) ?_
  unfold numB at hR
  obtain ⟨⟨w, q⟩, hC⟩ : ∃ C, cutDot l = C := ⟨_, rfl⟩
  rw [hC] at hcd hlen hR
  dsimp only at hcd hlen
  obtain ⟨F, hF⟩ : ∃ F, F = ACode.wp Tryz.prog c137_27 := ⟨_, rfl⟩
  have fin : ∀ (p : List UInt8) (a : AFr), w.length + p.length ≤ l.length → (w ++ p).all digB = R → (a 3 = .str w ∧ a 4 = .str p) → F (RetQ [.t 2] fun v σ' => v = .bool R ∧ σ' = σ) a σ := by
    intro p a hlp hwp hf
    rw [hF]
    have hl2 : w.length + p.length ≤ 9223372036854775807 := by omega
    simp (disch := first | assumption | omega | (simp only [List.length_append, List.length_cons, List.length_nil]; omega)) only [go_sem, reduceCtorEq, Nat.reduceEqDiff, Nat.reduceAdd, Nat.reduceSub, Nat.reduceMul, Nat.reduceLeDiff, Int.reduceLT, Int.reduceLE, Int.reduceEq, ↓reduceIte, Int.reduceNeg, Int.reduceAdd, Int.reduceSub, Int.reduceMul, true_imp_iff, forall_const, Nat.mul_one, Int.reduceToNat, Nat.reducePow, Int.reducePow, Bool.true_and, Bool.false_and, Bool.and_false, hf, hl2]
    refine s2b_shr ?_
    obtain ⟨m, hm⟩ : ∃ m, w ++ p = m := ⟨_, rfl⟩
    rw [hm] at hwp ⊢
    have hml : m.length ≤ 1000000000 := by rw [← hm]; simp; omega
    simp (disch := first | assumption | omega | (simp only [List.length_append, List.length_cons, List.length_nil]; omega)) only [go_sem, reduceCtorEq, Nat.reduceEqDiff, Nat.reduceAdd, Nat.reduceSub, Nat.reduceMul, Nat.reduceLeDiff, Int.reduceLT, Int.reduceLE, Int.reduceEq, ↓reduceIte, Int.reduceNeg, Int.reduceAdd, Int.reduceSub, Int.reduceMul, true_imp_iff, forall_const, Nat.mul_one, Int.reduceToNat, Nat.reducePow, Int.reducePow, Bool.true_and, Bool.false_and, Bool.and_false, hf]
    refine wp_loop_on (fun (i : Nat) a σ' => i ≤ m.length ∧ (m.take i).all digB = true ∧ (a 31 = .sl .shr (bytesAV m) ∧ a 32 = .int .i64 m.length ∧ a 33 = .int .i64 i) ∧ σ' = σ) (fun i => m.length - i) 0 ⟨Nat.zero_le _, rfl, ?_, rfl⟩ ?_
    · simp (disch := first | assumption | omega | (simp only [List.length_append, List.length_cons, List.length_nil]; omega)) only [go_sem, reduceCtorEq, Nat.reduceEqDiff, Nat.reduceAdd, Nat.reduceSub, Nat.reduceMul, Nat.reduceLeDiff, Int.reduceLT, Int.reduceLE, Int.reduceEq, ↓reduceIte, Int.reduceNeg, Int.reduceAdd, Int.reduceSub, Int.reduceMul, true_imp_iff, forall_const, Nat.mul_one, Int.reduceToNat, Nat.reducePow, Int.reducePow, Bool.true_and, Bool.false_and, Bool.and_false]
    rintro i a σ1 ⟨hi, hall, hf, rfl⟩
    by_cases hlt : i < m.length
    · have hidx : m[i]? = some (m[i]'hlt) := List.getElem?_eq_getElem hlt
      obtain ⟨c, hc⟩ : ∃ c, m[i]'hlt = c := ⟨_, rfl⟩
      rw [hc] at hidx
      have hlt' : (i : Int) < m.length := by omega
      simp (disch := first | assumption | omega | (simp only [List.length_append, List.length_cons, List.length_nil]; omega)) only [go_sem, reduceCtorEq, Nat.reduceEqDiff, Nat.reduceAdd, Nat.reduceSub, Nat.reduceMul, Nat.reduceLeDiff, Int.reduceLT, Int.reduceLE, Int.reduceEq, ↓reduceIte, Int.reduceNeg, Int.reduceAdd, Int.reduceSub, Int.reduceMul, true_imp_iff, forall_const, Nat.mul_one, Int.reduceToNat, Nat.reducePow, Int.reducePow, Bool.true_and, Bool.false_and, Bool.and_false, hf, hlt', hidx]
      refine (digit_ok c).use ?_
      obtain ⟨d, hd⟩ : ∃ d, digB c = d := ⟨_, rfl⟩
      rw [hd]
      have hnx : (m.take (i + 1)).all digB = d := by
        rw [List.take_succ_eq_append_getElem hlt, hc, List.all_append, hall]
        simp [hd]
      cases d
      · simp (disch := first | assumption | omega | (simp only [List.length_append, List.length_cons, List.length_nil]; omega)) only [go_sem, reduceCtorEq, Nat.reduceEqDiff, Nat.reduceAdd, Nat.reduceSub, Nat.reduceMul, Nat.reduceLeDiff, Int.reduceLT, Int.reduceLE, Int.reduceEq, ↓reduceIte, Int.reduceNeg, Int.reduceAdd, Int.reduceSub, Int.reduceMul, true_imp_iff, forall_const, Nat.mul_one, Int.reduceToNat, Nat.reducePow, Int.reducePow, Bool.true_and, Bool.false_and, Bool.and_false, hf]
        have : m.all digB = false := by
          have h1 := congrArg (fun x => x && (m.drop (i + 1)).all digB) hnx
          simp only [← List.all_append, List.take_append_drop, Bool.false_and] at h1
          exact h1
        rw [this] at hwp
        subst hwp
        exact retC_by (by repeat' (first | exact Drop.refl _ | with_reducible refine Drop.off ?_ (by assumption))) (.refl _) ⟨rfl, rfl⟩
      · simp (disch := first | assumption | omega | (simp only [List.length_append, List.length_cons, List.length_nil]; omega)) only [go_sem, reduceCtorEq, Nat.reduceEqDiff, Nat.reduceAdd, Nat.reduceSub, Nat.reduceMul, Nat.reduceLeDiff, Int.reduceLT, Int.reduceLE, Int.reduceEq, ↓reduceIte, Int.reduceNeg, Int.reduceAdd, Int.reduceSub, Int.reduceMul, true_imp_iff, forall_const, Nat.mul_one, Int.reduceToNat, Nat.reducePow, Int.reducePow, Bool.true_and, Bool.false_and, Bool.and_false, hf]
        exact ⟨i + 1, by omega, by omega, hnx, rfl⟩
    · have hlt' : ¬ (i : Int) < m.length := by omega
      rw [List.take_of_length_le (by omega), hwp] at hall
      subst hall
      simp (disch := first | assumption | omega | (simp only [List.length_append, List.length_cons, List.length_nil]; omega)) only [go_sem, reduceCtorEq, Nat.reduceEqDiff, Nat.reduceAdd, Nat.reduceSub, Nat.reduceMul, Nat.reduceLeDiff, Int.reduceLT, Int.reduceLE, Int.reduceEq, ↓reduceIte, Int.reduceNeg, Int.reduceAdd, Int.reduceSub, Int.reduceMul, true_imp_iff, forall_const, Nat.mul_one, Int.reduceToNat, Nat.reducePow, Int.reducePow, Bool.true_and, Bool.false_and, Bool.and_false, hf, hlt']
      exact retC_by (by repeat' (first | exact Drop.refl _ | with_reducible refine Drop.off ?_ (by assumption))) (.refl _) ⟨rfl, rfl⟩
  simp (disch := first | assumption | omega | (simp only [List.length_append, List.length_cons, List.length_nil]; omega)) only [go_sem, reduceCtorEq, Nat.reduceEqDiff, Nat.reduceAdd, Nat.reduceSub, Nat.reduceMul, Nat.reduceLeDiff, Int.reduceLT, Int.reduceLE, Int.reduceEq, ↓reduceIte, Int.reduceNeg, Int.reduceAdd, Int.reduceSub, Int.reduceMul, true_imp_iff, forall_const, Nat.mul_one, Int.reduceToNat, Nat.reducePow, Int.reducePow, Bool.true_and, Bool.false_and, Bool.and_false, ←hF]
  refine hcd.use ?_
  by_cases hw : w = []
  · have : R = false := by
      rw [← hR]
      cases q <;> simp [hw]
    subst hw this
    simp (disch := first | assumption | omega | (simp only [List.length_append, List.length_cons, List.length_nil]; omega)) only [go_sem, reduceCtorEq, Nat.reduceEqDiff, Nat.reduceAdd, Nat.reduceSub, Nat.reduceMul, Nat.reduceLeDiff, Int.reduceLT, Int.reduceLE, Int.reduceEq, ↓reduceIte, Int.reduceNeg, Int.reduceAdd, Int.reduceSub, Int.reduceMul, true_imp_iff, forall_const, Nat.mul_one, Int.reduceToNat, Nat.reducePow, Int.reducePow, Bool.true_and, Bool.false_and, Bool.and_false, ←hF]
    exact retC_by (by repeat' (first | exact Drop.refl _ | with_reducible refine Drop.off ?_ (by assumption))) (.refl _) ⟨rfl, rfl⟩
  cases q with
  | none =>
    simp (disch := first | assumption | omega | (simp only [List.length_append, List.length_cons, List.length_nil]; omega)) only [go_sem, reduceCtorEq, Nat.reduceEqDiff, Nat.reduceAdd, Nat.reduceSub, Nat.reduceMul, Nat.reduceLeDiff, Int.reduceLT, Int.reduceLE, Int.reduceEq, ↓reduceIte, Int.reduceNeg, Int.reduceAdd, Int.reduceSub, Int.reduceMul, true_imp_iff, forall_const, Nat.mul_one, Int.reduceToNat, Nat.reducePow, Int.reducePow, Bool.true_and, Bool.false_and, Bool.and_false, hw, Option.isSome_none, Option.getD_none, ←hF]
    refine fin [] _ (by simpa using hlen) (by rw [← hR]; simp [hw]) ?_
    simp (disch := first | assumption | omega | (simp only [List.length_append, List.length_cons, List.length_nil]; omega)) only [go_sem, reduceCtorEq, Nat.reduceEqDiff, Nat.reduceAdd, Nat.reduceSub, Nat.reduceMul, Nat.reduceLeDiff, Int.reduceLT, Int.reduceLE, Int.reduceEq, ↓reduceIte, Int.reduceNeg, Int.reduceAdd, Int.reduceSub, Int.reduceMul, true_imp_iff, forall_const, Nat.mul_one, Int.reduceToNat, Nat.reducePow, Int.reducePow, Bool.true_and, Bool.false_and, Bool.and_false]
  | some p =>
    dsimp only [Option.getD_some] at hlen
    by_cases hp : p = []
    · have : R = false := by rw [← hR]; simp [hp]
      subst hp this
      simp (disch := first | assumption | omega | (simp only [List.length_append, List.length_cons, List.length_nil]; omega)) only [go_sem, reduceCtorEq, Nat.reduceEqDiff, Nat.reduceAdd, Nat.reduceSub, Nat.reduceMul, Nat.reduceLeDiff, Int.reduceLT, Int.reduceLE, Int.reduceEq, ↓reduceIte, Int.reduceNeg, Int.reduceAdd, Int.reduceSub, Int.reduceMul, true_imp_iff, forall_const, Nat.mul_one, Int.reduceToNat, Nat.reducePow, Int.reducePow, Bool.true_and, Bool.false_and, Bool.and_false, hw, Option.getD_some, Option.isSome_some, ←hF]
      exact retC_by (by repeat' (first | exact Drop.refl _ | with_reducible refine Drop.off ?_ (by assumption))) (.refl _) ⟨rfl, rfl⟩
    by_cases h4 : 4 < p.length
    · have : R = false := by rw [← hR]; simp [hp, show ¬ p.length ≤ 4 by omega]
      subst this
      have h4' : (4 : Int) < p.length := by omega
      simp (disch := first | assumption | omega | (simp only [List.length_append, List.length_cons, List.length_nil]; omega)) only [go_sem, reduceCtorEq, Nat.reduceEqDiff, Nat.reduceAdd, Nat.reduceSub, Nat.reduceMul, Nat.reduceLeDiff, Int.reduceLT, Int.reduceLE, Int.reduceEq, ↓reduceIte, Int.reduceNeg, Int.reduceAdd, Int.reduceSub, Int.reduceMul, true_imp_iff, forall_const, Nat.mul_one, Int.reduceToNat, Nat.reducePow, Int.reducePow, Bool.true_and, Bool.false_and, Bool.and_false, hw, hp, h4', Option.getD_some, Option.isSome_some, ←hF]
      exact retC_by (by repeat' (first | exact Drop.refl _ | with_reducible refine Drop.off ?_ (by assumption))) (.refl _) ⟨rfl, rfl⟩
    · have h4' : ¬ (4 : Int) < p.length := by omega
      simp (disch := first | assumption | omega | (simp only [List.length_append, List.length_cons, List.length_nil]; omega)) only [go_sem, reduceCtorEq, Nat.reduceEqDiff, Nat.reduceAdd, Nat.reduceSub, Nat.reduceMul, Nat.reduceLeDiff, Int.reduceLT, Int.reduceLE, Int.reduceEq, ↓reduceIte, Int.reduceNeg, Int.reduceAdd, Int.reduceSub, Int.reduceMul, true_imp_iff, forall_const, Nat.mul_one, Int.reduceToNat, Nat.reducePow, Int.reducePow, Bool.true_and, Bool.false_and, Bool.and_false, hw, hp, h4', Option.getD_some, Option.isSome_some, ←hF]
      refine fin p _ hlen (by rw [← hR]; simp [hw, hp, show p.length ≤ 4 by omega]) ?_
      simp (disch := first | assumption | omega | (simp only [List.length_append, List.length_cons, List.length_nil]; omega)) only [go_sem, reduceCtorEq, Nat.reduceEqDiff, Nat.reduceAdd, Nat.reduceSub, Nat.reduceMul, Nat.reduceLeDiff, Int.reduceLT, Int.reduceLE, Int.reduceEq, ↓reduceIte, Int.reduceNeg, Int.reduceAdd, Int.reduceSub, Int.reduceMul, true_imp_iff, forall_const, Nat.mul_one, Int.reduceToNat, Nat.reducePow, Int.reducePow, Bool.true_and, Bool.false_and, Bool.and_false]
theorem isName_ok (l : List UInt8) (hl : l.length ≤ 1000000000) : Pure Tryz.prog 140 [.str l] (.bool (nameB l)) := by
  intro σ
  refine a140 (by simp) ?_
  obtain ⟨R, hR⟩ : ∃ R, nameB l = R := ⟨_, rfl⟩
  rw [hR]
  unfold nameB at hR
  simp (disch := first | assumption | omega | (simp only [List.length_append, List.length_cons, List.length_nil]; omega)) only [go_sem, reduceCtorEq, Nat.reduceEqDiff, Nat.reduceAdd, Nat.reduceSub, Nat.reduceMul, Nat.reduceLeDiff, Int.reduceLT, Int.reduceLE, Int.reduceEq, ↓reduceIte, Int.reduceNeg, Int.reduceAdd, Int.reduceSub, Int.reduceMul, true_imp_iff, forall_const, Nat.mul_one, Int.reduceToNat, Nat.reducePow, Int.reducePow, Bool.true_and, Bool.false_and, Bool.and_false]
  refine wp_loop_on (fun (i : Nat) a σ' => i ≤ l.length ∧ (l.take i).all (fun c => wordB c && decide (c.toNat ≠ 36)) = true ∧ (0 < i → ((l.head?.map fun c => digB c || decide (c.toNat = 46)).getD false) = false) ∧ (a 0 = .str l ∧ a 5 = .int .i64 l.length ∧ a 6 = .int .i64 i) ∧ σ' = σ) (fun i => l.length - i) 0 ⟨Nat.zero_le _, rfl, by omega, ?_, rfl⟩ ?_
  · simp (disch := first | assumption | omega | (simp only [List.length_append, List.length_cons, List.length_nil]; omega)) only [go_sem, reduceCtorEq, Nat.reduceEqDiff, Nat.reduceAdd, Nat.reduceSub, Nat.reduceMul, Nat.reduceLeDiff, Int.reduceLT, Int.reduceLE, Int.reduceEq, ↓reduceIte, Int.reduceNeg, Int.reduceAdd, Int.reduceSub, Int.reduceMul, true_imp_iff, forall_const, Nat.mul_one, Int.reduceToNat, Nat.reducePow, Int.reducePow, Bool.true_and, Bool.false_and, Bool.and_false]
  rintro i a σ1 ⟨hi, hall, hfst, hf, rfl⟩
  by_cases hlt : i < l.length
  · have hidx : l[i]? = some (l[i]'hlt) := List.getElem?_eq_getElem hlt
    obtain ⟨c, hc⟩ : ∃ c, l[i]'hlt = c := ⟨_, rfl⟩
    rw [hc] at hidx
    have hlt' : (i : Int) < l.length := by omega
    have hstep : (l.take (i + 1)).all (fun c => wordB c && decide (c.toNat ≠ 36)) = (wordB c && decide (c.toNat ≠ 36)) := by
      rw [List.take_succ_eq_append_getElem hlt, hc, List.all_append, hall]
      simp
    have hno : (wordB c && decide (c.toNat ≠ 36)) = false → R = false := by
      intro h
      rw [h] at hstep
      have h1 := congrArg (fun x => x && (l.drop (i + 1)).all (fun c => wordB c && decide (c.toNat ≠ 36))) hstep
      simp only [← List.all_append, List.take_append_drop, Bool.false_and] at h1
      rw [← hR, h1]
      simp
    simp (disch := first | assumption | omega | (simp only [List.length_append, List.length_cons, List.length_nil]; omega)) only [go_sem, reduceCtorEq, Nat.reduceEqDiff, Nat.reduceAdd, Nat.reduceSub, Nat.reduceMul, Nat.reduceLeDiff, Int.reduceLT, Int.reduceLE, Int.reduceEq, ↓reduceIte, Int.reduceNeg, Int.reduceAdd, Int.reduceSub, Int.reduceMul, true_imp_iff, forall_const, Nat.mul_one, Int.reduceToNat, Nat.reducePow, Int.reducePow, Bool.true_and, Bool.false_and, Bool.and_false, hf, hlt', hidx]
    refine (word_ok c).use ?_
    cases hwd : wordB c with
    | false =>
      obtain rfl := hno (by rw [hwd]; rfl)
      simp (disch := first | assumption | omega | (simp only [List.length_append, List.length_cons, List.length_nil]; omega)) only [go_sem, reduceCtorEq, Nat.reduceEqDiff, Nat.reduceAdd, Nat.reduceSub, Nat.reduceMul, Nat.reduceLeDiff, Int.reduceLT, Int.reduceLE, Int.reduceEq, ↓reduceIte, Int.reduceNeg, Int.reduceAdd, Int.reduceSub, Int.reduceMul, true_imp_iff, forall_const, Nat.mul_one, Int.reduceToNat, Nat.reducePow, Int.reducePow, Bool.true_and, Bool.false_and, Bool.and_false, hf]
      exact retC_by (by repeat' (first | exact Drop.refl _ | with_reducible refine Drop.off ?_ (by assumption))) (.refl _) ⟨rfl, rfl⟩
    | true =>
    by_cases h36 : (c.toNat : Int) = 36
    · obtain rfl := hno (by rw [hwd]; simp; omega)
      simp (disch := first | assumption | omega | (simp only [List.length_append, List.length_cons, List.length_nil]; omega)) only [go_sem, reduceCtorEq, Nat.reduceEqDiff, Nat.reduceAdd, Nat.reduceSub, Nat.reduceMul, Nat.reduceLeDiff, Int.reduceLT, Int.reduceLE, Int.reduceEq, ↓reduceIte, Int.reduceNeg, Int.reduceAdd, Int.reduceSub, Int.reduceMul, true_imp_iff, forall_const, Nat.mul_one, Int.reduceToNat, Nat.reducePow, Int.reducePow, Bool.true_and, Bool.false_and, Bool.and_false, hf, hlt', hidx, h36]
      exact retC_by (by repeat' (first | exact Drop.refl _ | with_reducible refine Drop.off ?_ (by assumption))) (.refl _) ⟨rfl, rfl⟩
    have hok : (l.take (i + 1)).all (fun c => wordB c && decide (c.toNat ≠ 36)) = true := by rw [hstep, hwd]; simp; omega
    by_cases h0 : i = 0
    · subst h0
      have hhd : l.head? = some c := by
        rw [List.head?_eq_getElem?]; exact hidx
      simp (disch := first | assumption | omega | (simp only [List.length_append, List.length_cons, List.length_nil]; omega)) only [go_sem, reduceCtorEq, Nat.reduceEqDiff, Nat.reduceAdd, Nat.reduceSub, Nat.reduceMul, Nat.reduceLeDiff, Int.reduceLT, Int.reduceLE, Int.reduceEq, ↓reduceIte, Int.reduceNeg, Int.reduceAdd, Int.reduceSub, Int.reduceMul, true_imp_iff, forall_const, Nat.mul_one, Int.reduceToNat, Nat.reducePow, Int.reducePow, Bool.true_and, Bool.false_and, Bool.and_false, hf, hlt', hidx, h36]
      refine (digit_ok c).use ?_
      cases hdg : digB c with
      | true =>
        have : R = false := by rw [← hR, hhd]; simp [hdg]
        subst this
        simp (disch := first | assumption | omega | (simp only [List.length_append, List.length_cons, List.length_nil]; omega)) only [go_sem, reduceCtorEq, Nat.reduceEqDiff, Nat.reduceAdd, Nat.reduceSub, Nat.reduceMul, Nat.reduceLeDiff, Int.reduceLT, Int.reduceLE, Int.reduceEq, ↓reduceIte, Int.reduceNeg, Int.reduceAdd, Int.reduceSub, Int.reduceMul, true_imp_iff, forall_const, Nat.mul_one, Int.reduceToNat, Nat.reducePow, Int.reducePow, Bool.true_and, Bool.false_and, Bool.and_false, hf]
        exact retC_by (by repeat' (first | exact Drop.refl _ | with_reducible refine Drop.off ?_ (by assumption))) (.refl _) ⟨rfl, rfl⟩
      | false =>
        by_cases h46 : (c.toNat : Int) = 46
        · have : R = false := by rw [← hR, hhd]; simp; intro _ _ _; omega
          subst this
          simp (disch := first | assumption | omega | (simp only [List.length_append, List.length_cons, List.length_nil]; omega)) only [go_sem, reduceCtorEq, Nat.reduceEqDiff, Nat.reduceAdd, Nat.reduceSub, Nat.reduceMul, Nat.reduceLeDiff, Int.reduceLT, Int.reduceLE, Int.reduceEq, ↓reduceIte, Int.reduceNeg, Int.reduceAdd, Int.reduceSub, Int.reduceMul, true_imp_iff, forall_const, Nat.mul_one, Int.reduceToNat, Nat.reducePow, Int.reducePow, Bool.true_and, Bool.false_and, Bool.and_false, hf, hidx, h46]
          exact retC_by (by repeat' (first | exact Drop.refl _ | with_reducible refine Drop.off ?_ (by assumption))) (.refl _) ⟨rfl, rfl⟩
        · simp (disch := first | assumption | omega | (simp only [List.length_append, List.length_cons, List.length_nil]; omega)) only [go_sem, reduceCtorEq, Nat.reduceEqDiff, Nat.reduceAdd, Nat.reduceSub, Nat.reduceMul, Nat.reduceLeDiff, Int.reduceLT, Int.reduceLE, Int.reduceEq, ↓reduceIte, Int.reduceNeg, Int.reduceAdd, Int.reduceSub, Int.reduceMul, true_imp_iff, forall_const, Nat.mul_one, Int.reduceToNat, Nat.reducePow, Int.reducePow, Bool.true_and, Bool.false_and, Bool.and_false, hf, hidx, h46]
          refine ⟨0 + 1, by omega, by omega, hok, ?_, rfl⟩
          intro _
          rw [hhd]
          simp [hdg]
          omega
    · have h0' : ¬ (i : Int) = 0 := by omega
      simp (disch := first | assumption | omega | (simp only [List.length_append, List.length_cons, List.length_nil]; omega)) only [go_sem, reduceCtorEq, Nat.reduceEqDiff, Nat.reduceAdd, Nat.reduceSub, Nat.reduceMul, Nat.reduceLeDiff, Int.reduceLT, Int.reduceLE, Int.reduceEq, ↓reduceIte, Int.reduceNeg, Int.reduceAdd, Int.reduceSub, Int.reduceMul, true_imp_iff, forall_const, Nat.mul_one, Int.reduceToNat, Nat.reducePow, Int.reducePow, Bool.true_and, Bool.false_and, Bool.and_false, hf, hlt', hidx, h36, h0']
      exact ⟨i + 1, by omega, by omega, hok, fun _ => hfst (by omega), rfl⟩
  · have hlt' : ¬ (i : Int) < l.length := by omega
    rw [List.take_of_length_le (by omega)] at hall
    have : R = decide (l ≠ []) := by
      rw [← hR, hall]
      by_cases hne : l = []
      · subst hne; rfl
      · have hpos := List.length_pos_iff.2 hne
        rw [hfst (by omega)]
        simp
    subst this
    simp (disch := first | assumption | omega | (simp only [List.length_append, List.length_cons, List.length_nil]; omega)) only [go_sem, reduceCtorEq, Nat.reduceEqDiff, Nat.reduceAdd, Nat.reduceSub, Nat.reduceMul, Nat.reduceLeDiff, Int.reduceLT, Int.reduceLE, Int.reduceEq, ↓reduceIte, Int.reduceNeg, Int.reduceAdd, Int.reduceSub, Int.reduceMul, true_imp_iff, forall_const, Nat.mul_one, Int.reduceToNat, Nat.reducePow, Int.reducePow, Bool.true_and, Bool.false_and, Bool.and_false, hf, hlt']
    exact retC_by (by repeat' (first | exact Drop.refl _ | with_reducible refine Drop.off ?_ (by assumption))) (.refl _) ⟨by simp [resV_one], rfl⟩
end Go.A
namespace Go.A
open Go.Proofs
/-! 62: (*strings.Builder).WriteByte -/
def c62_0 : ACode := .ops [
    ⟨(some 4), none, .q (.mv (.v .nili)), []⟩]
def c62_1 : ACode := .ops [
    ⟨(some 5), none, .q (.mv (.t 0)), []⟩,
    ⟨(some 6), none, .e (.call 81 [(.t 5)]), []⟩]
def c62_2 : ACode := .ops [
    ⟨(some 7), none, .q (.mv (.t 0)), []⟩,
    ⟨(some 8), none, .q (.mv (.t 0)), []⟩,
    ⟨(some 9), none, .q (.nc (.t 8)), []⟩,
    ⟨(some 10), none, .q (.fa 1 (.t 9)), []⟩,
    ⟨(some 11), none, .q (.ld none (.t 10)), []⟩,
    ⟨(some 12), none, .q (.mv (.t 1)), []⟩,
    ⟨(some 13), none, .q (.bsl 1 [(.t 12)]), []⟩,
    ⟨(some 14), none, .e (.app 5 1 1 [(.int .u8 0)] (.t 11) (.t 13)), []⟩,
    ⟨(some 15), none, .q (.nc (.t 7)), []⟩,
    ⟨(some 16), none, .q (.fa 1 (.t 15)), []⟩,
    ⟨none, none, .e (.store 1 (.t 16) (.t 14)), []⟩]
def c62_3 : ACode := .ops [
    ⟨(some 4), none, .q (.mv (.v .nili)), []⟩]
def c62_4 : ACode := .seq c62_3 .ret
def c62_5 : ACode := .seq c62_2 c62_4
def c62_6 : ACode := .seq c62_1 c62_5
def c62_7 : ACode := .seq c62_0 c62_6
@[go_sem] theorem c62_0_wp : type_of% (wp_of c62_0.eq_1) := wp_of c62_0.eq_1
@[go_sem] theorem c62_1_wp : type_of% (wp_of c62_1.eq_1) := wp_of c62_1.eq_1
@[go_sem] theorem c62_2_wp : type_of% (wp_of c62_2.eq_1) := wp_of c62_2.eq_1
@[go_sem] theorem c62_3_wp : type_of% (wp_of c62_3.eq_1) := wp_of c62_3.eq_1
@[go_sem] theorem c62_4_wp : type_of% (wp_of c62_4.eq_1) := wp_of c62_4.eq_1
@[go_sem] theorem c62_5_wp : type_of% (wp_of c62_5.eq_1) := wp_of c62_5.eq_1
@[go_sem] theorem c62_6_wp : type_of% (wp_of c62_6.eq_1) := wp_of c62_6.eq_1
@[go_sem] theorem c62_7_wp : type_of% (wp_of c62_7.eq_1) := wp_of c62_7.eq_1
def c62 : AFn := ⟨17, [.t 4], c62_7⟩
set_option maxRecDepth 100000 in
theorem c62_ok : compF Tryz.prog Tryz.f62 = some c62 := by kernel_rfl
theorem a62 {args : List AV} {σ : ASt} {R : AV → ASt → Prop} (hl : args.length ≤ 17) (h : c62_7.wp Tryz.prog (RetQ [.t 4] R) (init args) σ) : ACalls Tryz.prog 62 args σ R := acalls_of Tryz.func62 c62_ok hl h
/-! 141: (*strings.Builder).WriteRune -/
def c141_0 : ACode := .ops [
    ⟨(some 4), none, .q (.mv (.v (.int .i64 0))), []⟩,
    ⟨(some 5), none, .q (.mv (.v .nili)), []⟩]
def c141_1 : ACode := .ops [
    ⟨(some 7), none, .q (.mv (.t 0)), []⟩,
    ⟨(some 8), none, .e (.call 81 [(.t 7)]), []⟩]
def c141_2 : ACode := .ops [
    ⟨(some 9), none, .q (.mv (.t 0)), []⟩,
    ⟨(some 10), none, .q (.nc (.t 9)), []⟩,
    ⟨(some 11), none, .q (.fa 1 (.t 10)), []⟩,
    ⟨(some 12), none, .q (.ld none (.t 11)), []⟩,
    ⟨(some 13), none, .q (.len (.t 12)), []⟩,
    ⟨(some 6), none, .q (.mv (.t 13)), []⟩]
def c141_3 : ACode := .ops [
    ⟨(some 14), none, .q (.mv (.t 0)), []⟩,
    ⟨(some 15), none, .q (.mv (.t 0)), []⟩,
    ⟨(some 16), none, .q (.nc (.t 15)), []⟩,
    ⟨(some 17), none, .q (.fa 1 (.t 16)), []⟩,
    ⟨(some 18), none, .q (.ld none (.t 17)), []⟩,
    ⟨(some 19), none, .q (.mv (.t 1)), []⟩,
    ⟨(some 20), none, .e (.call 158 [(.t 18), (.t 19)]), []⟩,
    ⟨(some 21), none, .q (.nc (.t 14)), []⟩,
    ⟨(some 22), none, .q (.fa 1 (.t 21)), []⟩,
    ⟨none, none, .e (.store 1 (.t 22) (.t 20)), []⟩]
def c141_4 : ACode := .ops [
    ⟨(some 23), none, .q (.mv (.t 0)), []⟩,
    ⟨(some 24), none, .q (.nc (.t 23)), []⟩,
    ⟨(some 25), none, .q (.fa 1 (.t 24)), []⟩,
    ⟨(some 26), none, .q (.ld none (.t 25)), []⟩,
    ⟨(some 27), none, .q (.len (.t 26)), []⟩,
    ⟨(some 28), none, .q (.mv (.t 6)), []⟩,
    ⟨(some 29), none, .q (.bin .sub (.t 27) (.t 28)), []⟩,
    ⟨(some 4), none, .q (.mv (.t 29)), []⟩,
    ⟨(some 5), none, .q (.mv (.v .nili)), []⟩]
def c141_5 : ACode := .seq c141_4 .ret
def c141_6 : ACode := .seq c141_3 c141_5
def c141_7 : ACode := .seq c141_2 c141_6
def c141_8 : ACode := .seq c141_1 c141_7
def c141_9 : ACode := .seq c141_0 c141_8
@[go_sem] theorem c141_0_wp : type_of% (wp_of c141_0.eq_1) := wp_of c141_0.eq_1
@[go_sem] theorem c141_1_wp : type_of% (wp_of c141_1.eq_1) := wp_of c141_1.eq_1
@[go_sem] theorem c141_2_wp : type_of% (wp_of c141_2.eq_1) := wp_of c141_2.eq_1
@[go_sem] theorem c141_3_wp : type_of% (wp_of c141_3.eq_1) := wp_of c141_3.eq_1
@[go_sem] theorem c141_4_wp : type_of% (wp_of c141_4.eq_1) := wp_of c141_4.eq_1
@[go_sem] theorem c141_5_wp : type_of% (wp_of c141_5.eq_1) := wp_of c141_5.eq_1
@[go_sem] theorem c141_6_wp : type_of% (wp_of c141_6.eq_1) := wp_of c141_6.eq_1
@[go_sem] theorem c141_7_wp : type_of% (wp_of c141_7.eq_1) := wp_of c141_7.eq_1
@[go_sem] theorem c141_8_wp : type_of% (wp_of c141_8.eq_1) := wp_of c141_8.eq_1
@[go_sem] theorem c141_9_wp : type_of% (wp_of c141_9.eq_1) := wp_of c141_9.eq_1
def c141 : AFn := ⟨30, [.t 4, .t 5], c141_9⟩
set_option maxRecDepth 100000 in
theorem c141_ok : compF Tryz.prog Tryz.f141 = some c141 := by kernel_rfl
theorem a141 {args : List AV} {σ : ASt} {R : AV → ASt → Prop} (hl : args.length ≤ 30) (h : c141_9.wp Tryz.prog (RetQ [.t 4, .t 5] R) (init args) σ) : ACalls Tryz.prog 141 args σ R := acalls_of Tryz.func141 c141_ok hl h
/-! 158: unicode/utf8.AppendRune -/
def c158_0 : ACode := .ops [
    ⟨(some 4), none, .q (.mv (.v (.sl .full []))), []⟩]
def c158_1 : ACode := .ops [
    ⟨(some 5), none, .q (.mv (.t 1)), []⟩,
    ⟨(some 6), none, .q (.conv .u32 (.t 5)), []⟩,
    ⟨(some 7), none, .q (.bin .leq (.t 6) (.v (.int .u32 127))), []⟩]
def c158_2 : ACode := .ops [
    ⟨(some 8), none, .q (.mv (.t 0)), []⟩,
    ⟨(some 9), none, .q (.mv (.t 1)), []⟩,
    ⟨(some 10), none, .q (.conv .u8 (.t 9)), []⟩,
    ⟨(some 11), none, .q (.bsl 1 [(.t 10)]), []⟩,
    ⟨(some 12), none, .e (.app 5 1 1 [(.int .u8 0)] (.t 8) (.t 11)), []⟩,
    ⟨(some 4), none, .q (.mv (.t 12)), []⟩]
def c158_3 : ACode := .seq c158_2 .ret
def c158_4 : ACode := .cond (.t 7) c158_3 .skip
def c158_5 : ACode := .seq c158_1 c158_4
def c158_6 : ACode := .ops [
    ⟨(some 13), none, .q (.mv (.t 0)), []⟩,
    ⟨(some 14), none, .q (.mv (.t 1)), []⟩,
    ⟨(some 15), none, .e (.call 164 [(.t 13), (.t 14)]), []⟩,
    ⟨(some 4), none, .q (.mv (.t 15)), []⟩]
def c158_7 : ACode := .seq c158_6 .ret
def c158_8 : ACode := .seq c158_5 c158_7
def c158_9 : ACode := .seq c158_0 c158_8
@[go_sem] theorem c158_0_wp : type_of% (wp_of c158_0.eq_1) := wp_of c158_0.eq_1
@[go_sem] theorem c158_1_wp : type_of% (wp_of c158_1.eq_1) := wp_of c158_1.eq_1
@[go_sem] theorem c158_2_wp : type_of% (wp_of c158_2.eq_1) := wp_of c158_2.eq_1
@[go_sem] theorem c158_3_wp : type_of% (wp_of c158_3.eq_1) := wp_of c158_3.eq_1
@[go_sem] theorem c158_4_wp : type_of% (wp_of c158_4.eq_1) := wp_of c158_4.eq_1
@[go_sem] theorem c158_5_wp : type_of% (wp_of c158_5.eq_1) := wp_of c158_5.eq_1
@[go_sem] theorem c158_6_wp : type_of% (wp_of c158_6.eq_1) := wp_of c158_6.eq_1
@[go_sem] theorem c158_7_wp : type_of% (wp_of c158_7.eq_1) := wp_of c158_7.eq_1
@[go_sem] theorem c158_8_wp : type_of% (wp_of c158_8.eq_1) := wp_of c158_8.eq_1
@[go_sem] theorem c158_9_wp : type_of% (wp_of c158_9.eq_1) := wp_of c158_9.eq_1
def c158 : AFn := ⟨16, [.t 4], c158_9⟩
set_option maxRecDepth 100000 in
theorem c158_ok : compF Tryz.prog Tryz.f158 = some c158 := by kernel_rfl
theorem a158 {args : List AV} {σ : ASt} {R : AV → ASt → Prop} (hl : args.length ≤ 16) (h : c158_9.wp Tryz.prog (RetQ [.t 4] R) (init args) σ) : ACalls Tryz.prog 158 args σ R := acalls_of Tryz.func158 c158_ok hl h
/-! 164: unicode/utf8.appendRuneNonASCII -/
def c164_0 : ACode := .ops [
    ⟨(some 4), none, .q (.mv (.v (.sl .full []))), []⟩]
def c164_1 : ACode := .ops [
    ⟨(some 6), none, .q (.mv (.t 1)), []⟩,
    ⟨(some 7), none, .q (.conv .u32 (.t 6)), []⟩,
    ⟨(some 5), none, .q (.mv (.t 7)), []⟩]
def c164_2 : ACode := .ops [
    ⟨(some 12), none, .q (.mv (.t 5)), []⟩,
    ⟨(some 13), none, .q (.bin .leq (.t 12) (.v (.int .u32 2047))), []⟩,
    ⟨(some 11), none, .q (.mv (.t 13)), []⟩]
def c164_3 : ACode := .ops [
    ⟨(some 14), none, .q (.mv (.t 0)), []⟩,
    ⟨(some 15), none, .q (.mv (.t 1)), []⟩,
    ⟨(some 16), none, .q (.bin .shr (.t 15) (.v (.int .u64 6))), []⟩,
    ⟨(some 17), none, .q (.conv .u8 (.t 16)), []⟩,
    ⟨(some 18), none, .q (.bin .or (.v (.int .u8 192)) (.t 17)), []⟩,
    ⟨(some 19), none, .q (.mv (.t 1)), []⟩,
    ⟨(some 20), none, .q (.conv .u8 (.t 19)), []⟩,
    ⟨(some 21), none, .q (.bin .and (.t 20) (.v (.int .u8 63))), []⟩,
    ⟨(some 22), none, .q (.bin .or (.v (.int .u8 128)) (.t 21)), []⟩,
    ⟨(some 23), none, .q (.bsl 1 [(.t 18), (.t 22)]), []⟩,
    ⟨(some 24), none, .e (.app 5 1 1 [(.int .u8 0)] (.t 14) (.t 23)), []⟩,
    ⟨(some 4), none, .q (.mv (.t 24)), []⟩]
def c164_4 : ACode := .seq c164_3 .ret
def c164_5 : ACode := .ops [
    ⟨(some 26), none, .q (.mv (.t 5)), []⟩,
    ⟨(some 27), none, .q (.bin .lss (.t 26) (.v (.int .u32 55296))), []⟩,
    ⟨(some 25), none, .q (.mv (.t 27)), []⟩]
def c164_6 : ACode := .ops [
    ⟨(some 28), none, .q (.mv (.t 5)), []⟩,
    ⟨(some 29), none, .q (.bin .lss (.v (.int .u32 57343)) (.t 28)), []⟩,
    ⟨(some 30), none, .q (.mv (.t 29)), []⟩,
    ⟨(some 31), (some (30, true)), .q (.mv (.t 5)), []⟩,
    ⟨(some 32), (some (30, true)), .q (.bin .leq (.t 31) (.v (.int .u32 65535))), []⟩,
    ⟨(some 33), none, .q (.pick (.t 30) (.t 32) (.v (.bool false))), []⟩,
    ⟨(some 25), none, .q (.mv (.t 33)), []⟩]
def c164_7 : ACode := .cond (.t 25) .skip c164_6
def c164_8 : ACode := .seq c164_5 c164_7
def c164_9 : ACode := .ops [
    ⟨(some 34), none, .q (.mv (.t 0)), []⟩,
    ⟨(some 35), none, .q (.mv (.t 1)), []⟩,
    ⟨(some 36), none, .q (.bin .shr (.t 35) (.v (.int .u64 12))), []⟩,
    ⟨(some 37), none, .q (.conv .u8 (.t 36)), []⟩,
    ⟨(some 38), none, .q (.bin .or (.v (.int .u8 224)) (.t 37)), []⟩,
    ⟨(some 39), none, .q (.mv (.t 1)), []⟩,
    ⟨(some 40), none, .q (.bin .shr (.t 39) (.v (.int .u64 6))), []⟩,
    ⟨(some 41), none, .q (.conv .u8 (.t 40)), []⟩,
    ⟨(some 42), none, .q (.bin .and (.t 41) (.v (.int .u8 63))), []⟩,
    ⟨(some 43), none, .q (.bin .or (.v (.int .u8 128)) (.t 42)), []⟩,
    ⟨(some 44), none, .q (.mv (.t 1)), []⟩,
    ⟨(some 45), none, .q (.conv .u8 (.t 44)), []⟩,
    ⟨(some 46), none, .q (.bin .and (.t 45) (.v (.int .u8 63))), []⟩,
    ⟨(some 47), none, .q (.bin .or (.v (.int .u8 128)) (.t 46)), []⟩,
    ⟨(some 48), none, .q (.bsl 1 [(.t 38), (.t 43), (.t 47)]), []⟩,
    ⟨(some 49), none, .e (.app 5 1 1 [(.int .u8 0)] (.t 34) (.t 48)), []⟩,
    ⟨(some 4), none, .q (.mv (.t 49)), []⟩]
def c164_10 : ACode := .seq c164_9 .ret
def c164_11 : ACode := .ops [
    ⟨(some 51), none, .q (.mv (.t 5)), []⟩,
    ⟨(some 52), none, .q (.bin .gtr (.t 51) (.v (.int .u32 65535))), []⟩,
    ⟨(some 53), none, .q (.mv (.t 52)), []⟩,
    ⟨(some 54), (some (53, true)), .q (.mv (.t 5)), []⟩,
    ⟨(some 55), (some (53, true)), .q (.bin .leq (.t 54) (.v (.int .u32 1114111))), []⟩,
    ⟨(some 56), none, .q (.pick (.t 53) (.t 55) (.v (.bool false))), []⟩,
    ⟨(some 50), none, .q (.mv (.t 56)), []⟩]
def c164_12 : ACode := .ops [
    ⟨(some 57), none, .q (.mv (.t 0)), []⟩,
    ⟨(some 58), none, .q (.mv (.t 1)), []⟩,
    ⟨(some 59), none, .q (.bin .shr (.t 58) (.v (.int .u64 18))), []⟩,
    ⟨(some 60), none, .q (.conv .u8 (.t 59)), []⟩,
    ⟨(some 61), none, .q (.bin .or (.v (.int .u8 240)) (.t 60)), []⟩,
    ⟨(some 62), none, .q (.mv (.t 1)), []⟩,
    ⟨(some 63), none, .q (.bin .shr (.t 62) (.v (.int .u64 12))), []⟩,
    ⟨(some 64), none, .q (.conv .u8 (.t 63)), []⟩,
    ⟨(some 65), none, .q (.bin .and (.t 64) (.v (.int .u8 63))), []⟩,
    ⟨(some 66), none, .q (.bin .or (.v (.int .u8 128)) (.t 65)), []⟩,
    ⟨(some 67), none, .q (.mv (.t 1)), []⟩,
    ⟨(some 68), none, .q (.bin .shr (.t 67) (.v (.int .u64 6))), []⟩,
    ⟨(some 69), none, .q (.conv .u8 (.t 68)), []⟩,
    ⟨(some 70), none, .q (.bin .and (.t 69) (.v (.int .u8 63))), []⟩,
    ⟨(some 71), none, .q (.bin .or (.v (.int .u8 128)) (.t 70)), []⟩,
    ⟨(some 72), none, .q (.mv (.t 1)), []⟩,
    ⟨(some 73), none, .q (.conv .u8 (.t 72)), []⟩,
    ⟨(some 74), none, .q (.bin .and (.t 73) (.v (.int .u8 63))), []⟩,
    ⟨(some 75), none, .q (.bin .or (.v (.int .u8 128)) (.t 74)), []⟩,
    ⟨(some 76), none, .q (.bsl 1 [(.t 61), (.t 66), (.t 71), (.t 75)]), []⟩,
    ⟨(some 77), none, .e (.app 5 1 1 [(.int .u8 0)] (.t 57) (.t 76)), []⟩,
    ⟨(some 4), none, .q (.mv (.t 77)), []⟩]
def c164_13 : ACode := .seq c164_12 .ret
def c164_14 : ACode := .ops [
    ⟨(some 8), none, .q (.mv (.t 0)), []⟩,
    ⟨(some 9), none, .q (.bsl 1 [(.v (.int .u8 239)), (.v (.int .u8 191)), (.v (.int .u8 189))]), []⟩,
    ⟨(some 10), none, .e (.app 5 1 1 [(.int .u8 0)] (.t 8) (.t 9)), []⟩,
    ⟨(some 4), none, .q (.mv (.t 10)), []⟩]
def c164_15 : ACode := .seq c164_14 .ret
def c164_16 : ACode := .cond (.t 50) c164_13 c164_15
def c164_17 : ACode := .seq c164_11 c164_16
def c164_18 : ACode := .cond (.t 25) c164_10 c164_17
def c164_19 : ACode := .seq c164_8 c164_18
def c164_20 : ACode := .cond (.t 11) c164_4 c164_19
def c164_21 : ACode := .seq c164_2 c164_20
def c164_22 : ACode := .block 0 c164_21
def c164_23 : ACode := .seq c164_1 c164_22
def c164_24 : ACode := .seq c164_0 c164_23
@[go_sem] theorem c164_0_wp : type_of% (wp_of c164_0.eq_1) := wp_of c164_0.eq_1
@[go_sem] theorem c164_1_wp : type_of% (wp_of c164_1.eq_1) := wp_of c164_1.eq_1
@[go_sem] theorem c164_2_wp : type_of% (wp_of c164_2.eq_1) := wp_of c164_2.eq_1
@[go_sem] theorem c164_3_wp : type_of% (wp_of c164_3.eq_1) := wp_of c164_3.eq_1
@[go_sem] theorem c164_4_wp : type_of% (wp_of c164_4.eq_1) := wp_of c164_4.eq_1
@[go_sem] theorem c164_5_wp : type_of% (wp_of c164_5.eq_1) := wp_of c164_5.eq_1
@[go_sem] theorem c164_6_wp : type_of% (wp_of c164_6.eq_1) := wp_of c164_6.eq_1
@[go_sem] theorem c164_7_wp : type_of% (wp_of c164_7.eq_1) := wp_of c164_7.eq_1
@[go_sem] theorem c164_8_wp : type_of% (wp_of c164_8.eq_1) := wp_of c164_8.eq_1
@[go_sem] theorem c164_9_wp : type_of% (wp_of c164_9.eq_1) := wp_of c164_9.eq_1
@[go_sem] theorem c164_10_wp : type_of% (wp_of c164_10.eq_1) := wp_of c164_10.eq_1
@[go_sem] theorem c164_11_wp : type_of% (wp_of c164_11.eq_1) := wp_of c164_11.eq_1
@[go_sem] theorem c164_12_wp : type_of% (wp_of c164_12.eq_1) := wp_of c164_12.eq_1
@[go_sem] theorem c164_13_wp : type_of% (wp_of c164_13.eq_1) := wp_of c164_13.eq_1
@[go_sem] theorem c164_16_wp : type_of% (wp_of c164_16.eq_1) := wp_of c164_16.eq_1
@[go_sem] theorem c164_17_wp : type_of% (wp_of c164_17.eq_1) := wp_of c164_17.eq_1
@[go_sem] theorem c164_18_wp : type_of% (wp_of c164_18.eq_1) := wp_of c164_18.eq_1
@[go_sem] theorem c164_19_wp : type_of% (wp_of c164_19.eq_1) := wp_of c164_19.eq_1
@[go_sem] theorem c164_20_wp : type_of% (wp_of c164_20.eq_1) := wp_of c164_20.eq_1
@[go_sem] theorem c164_21_wp : type_of% (wp_of c164_21.eq_1) := wp_of c164_21.eq_1
@[go_sem] theorem c164_22_wp : type_of% (wp_of c164_22.eq_1) := wp_of c164_22.eq_1
@[go_sem] theorem c164_23_wp : type_of% (wp_of c164_23.eq_1) := wp_of c164_23.eq_1
@[go_sem] theorem c164_24_wp : type_of% (wp_of c164_24.eq_1) := wp_of c164_24.eq_1
def c164 : AFn := ⟨78, [.t 4], c164_24⟩
set_option maxRecDepth 100000 in
theorem c164_ok : compF Tryz.prog Tryz.f164 = some c164 := by kernel_rfl
theorem a164 {args : List AV} {σ : ASt} {R : AV → ASt → Prop} (hl : args.length ≤ 78) (h : c164_24.wp Tryz.prog (RetQ [.t 4] R) (init args) σ) : ACalls Tryz.prog 164 args σ R := acalls_of Tryz.func164 c164_ok hl h
end Go.A
namespace Go.A
set_option linter.unusedSimpArgs false
set_option linter.unusedVariables false
theorem ne_of_role {σ : ASt} {b c : Nat} {r : Role} (h : σ b = some r) (k : σ c = none) : b ≠ c ∧ c ≠ b := by
  constructor <;> rintro rfl <;> rw [h] at k <;> cases k
def GO (σ0 : ASt) (b : Nat) (cs : SK → List AV) (n s : Nat) (σ : ASt) : Prop := ∃ k, Grown (σ0.set b (some (.obj (cs k)))) σ k n s
theorem GO.cell {σ0 σ : ASt} {b n s : Nat} {k : SK} {cs : SK → List AV} (h : Grown (σ0.set b (some (.obj (cs k)))) σ k n s) : σ b = some (.obj (cs k)) := h.at (ASt.set_same _ _ _)
theorem GO.add {σ0 σ : ASt} {b c n s : Nat} {cs : SK → List AV} {r : Role} (h : GO σ0 b cs n s σ) (hc : σ c = none) : GO (σ0.set c (some r)) b cs n s (σ.set c (some r)) ∧ c ≠ b ∧ σ0 c = none := by
  obtain ⟨k, hg⟩ := h
  have hb := GO.cell hg
  have hcb : c ≠ b := by rintro rfl; rw [hb] at hc; cases hc
  have h0 : σ0 c = none := by
    rcases hg with ⟨_, _, rfl⟩ | ⟨t, T, _, _, rfl⟩
    · rwa [ASt.set_ne hcb] at hc
    · obtain ⟨_, _, hc⟩ := set_none hc
      rwa [ASt.set_ne hcb] at hc
  refine ⟨⟨k, ?_⟩, hcb, h0⟩
  rcases hg with ⟨h1, h2, rfl⟩ | ⟨t, T, h1, h2, rfl⟩
  · exact .inl ⟨h1, h2, set_swap (Ne.symm hcb)⟩
  · obtain ⟨h3, h4, _⟩ := set_none hc
    obtain ⟨h5, h6, h7⟩ := set_none h2
    refine .inr ⟨t, T, h1, ?_, ?_⟩
    · rw [ASt.set_ne h5, ASt.set_ne (Ne.symm h3)]; exact h7
    · rw [set_swap h4, set_swap (Ne.symm hcb)]
theorem GO.off {σ0 σ : ASt} {b c n s : Nat} {cs : SK → List AV} {r : Role} (h : GO (σ0.set c (some r)) b cs n s σ) (hcb : c ≠ b) (hc : σ0 c = none) : ∃ σ', Drop σ σ' ∧ GO σ0 b cs n s σ' := by
  obtain ⟨k, hg⟩ := h
  rcases hg with ⟨h1, h2, rfl⟩ | ⟨t, T, h1, h2, rfl⟩
  · refine ⟨σ0.set b (some (.obj (cs k))), ?_, ⟨k, .inl ⟨h1, h2, rfl⟩⟩⟩
    rw [set_swap hcb]
    exact Drop.set (by rw [ASt.set_ne hcb]; exact hc)
  · obtain ⟨h3, h4, h5⟩ := set_none h2
    obtain ⟨h6, h7, h8⟩ := set_none h5
    have e : ((σ0.set c (some r)).set b (some (.obj (cs k)))).set t (some (.tok (n * s))) = ((σ0.set b (some (.obj (cs k)))).set t (some (.tok (n * s)))).set c (some r) := by
      rw [set_swap hcb, set_swap h7]
    refine ⟨(σ0.set b (some (.obj (cs k)))).set t (some (.tok (n * s))), ?_, ⟨k, .inr ⟨t, T, h1, ?_, rfl⟩⟩⟩
    · rw [e]
      exact Drop.set (by rw [ASt.set_ne h7, ASt.set_ne hcb]; exact hc)
    · rw [ASt.set_ne h3]; exact h8
theorem GO.at {σ0 σ : ASt} {b n s x : Nat} {cs : SK → List AV} {r : Role} (h : GO σ0 b cs n s σ) (hx : x ≠ b) (h0 : σ0 x = some r) : σ x = some r := by
  obtain ⟨k, hg⟩ := h
  exact hg.at (by rw [ASt.set_ne hx]; exact h0)
inductive Over (τ : ASt) : ASt → Prop
  | refl : Over τ τ
  | set {σ : ASt} (c : Nat) (r : Role) : Over τ σ → σ c = none → Over τ (σ.set c (some r))
theorem Over.at {τ σ : ASt} (h : Over τ σ) {x : Nat} {r : Role} (hx : τ x = some r) : σ x = some r := by
  induction h with
  | refl => exact hx
  | set c q h hc ih =>
    have : x ≠ c := by rintro rfl; rw [ih] at hc; cases hc
    rw [ASt.set_ne this]; exact ih
theorem Over.drop {τ σ : ASt} (h : Over τ σ) : Drop σ τ := by
  induction h with
  | refl => exact Drop.refl _
  | set c q h hc ih =>
    intro x
    by_cases hx : x = c
    · subst hx
      rcases ih x with h1 | h1
      · exact .inr (h1.trans hc)
      · exact .inr h1
    · rcases ih x with h1 | h1
      · exact .inl (by rw [ASt.set_ne hx]; exact h1)
      · exact .inr h1
theorem Over.trans {τ σ ρ : ASt} (h : Over τ σ) (k : Over σ ρ) : Over τ ρ := by
  induction k with
  | refl => exact h
  | set c r _ hc ih => exact .set c r ih hc
theorem GO.over {σ0 τ σ : ASt} {b n s : Nat} {cs : SK → List AV} (h : GO σ0 b cs n s τ) (ho : Over τ σ) :
    ∃ σ0', GO σ0' b cs n s σ ∧ Over σ0 σ0' ∧ ∀ cs' n' σ', GO σ0' b cs' n' s σ' → ∃ σ'', Drop σ' σ'' ∧ GO σ0 b cs' n' s σ'' := by
  induction ho with
  | refl => exact ⟨σ0, h, .refl, fun cs' n' σ' h' => ⟨σ', Drop.refl _, h'⟩⟩
  | set c r ho hc ih =>
    obtain ⟨σ0', h1, h2, h3⟩ := ih
    obtain ⟨h4, h5, h6⟩ := h1.add (r := r) hc
    refine ⟨σ0'.set c (some r), h4, .set c r h2 h6, fun cs' n' σ' h' => ?_⟩
    obtain ⟨σ1, h7, h8⟩ := h'.off h5 h6
    obtain ⟨σ2, h9, h10⟩ := h3 _ _ _ h8
    exact ⟨σ2, h7.trans h9, h10⟩
def BW (T U : TypeId) (σ0 : ASt) (b : Nat) (l : List UInt8) (σ : ASt) : Prop :=
  (l = [] ∧ σ = σ0.set b (some (.typ T [.pointer none, .slice none 0 0]))) ∨ (l ≠ [] ∧ ∃ k, GrownT U (σ0.set b (some (.obj [.ptr b 0, .sl k (bytesAV l)]))) σ k l.length 1)
theorem BW.over {T U : TypeId} {σ0 σ : ASt} {b : Nat} {l : List UInt8} (h : BW T U σ0 b l σ) (hb : σ0 b = none) : Over σ0 σ := by
  rcases h with ⟨_, rfl⟩ | ⟨_, k, h1 | ⟨g, _, hg, rfl⟩⟩
  · exact .set b _ .refl hb
  · obtain ⟨_, _, rfl⟩ := h1
    exact .set b _ .refl hb
  · exact .set g _ (.set b _ .refl hb) hg
theorem BW.iter {T U : TypeId} {σ0 σ : ASt} {b it : Nat} {l : List UInt8} {r r' : Role} (h : BW T U (σ0.set it (some r)) b l σ) (hb : it ≠ b) : BW T U (σ0.set it (some r')) b l (σ.set it (some r')) ∧ σ it = some r := by
  rcases h with ⟨h0, rfl⟩ | ⟨h0, k, h1 | ⟨g, h1, hg, rfl⟩⟩
  · refine ⟨.inl ⟨h0, ?_⟩, by rw [ASt.set_ne hb, ASt.set_same]⟩
    rw [← set_swap hb, ASt.set_set]
  · obtain ⟨h1, h2, rfl⟩ := h1
    refine ⟨.inr ⟨h0, k, .inl ⟨h1, h2, ?_⟩⟩, by rw [ASt.set_ne hb, ASt.set_same]⟩
    rw [← set_swap hb, ASt.set_set]
  · obtain ⟨h3, h4, h5⟩ := set_none hg
    obtain ⟨h6, h7, h8⟩ := set_none h5
    refine ⟨.inr ⟨h0, k, .inr ⟨g, h1, ?_, ?_⟩⟩, by rw [ASt.set_ne h7, ASt.set_ne hb, ASt.set_same]⟩
    · rw [ASt.set_ne h3, ASt.set_ne h6]; exact h8
    · rw [← set_swap h7, ← set_swap hb, ASt.set_set]
end Go.A
namespace Go.A
open Go.Proofs Go.Lib
set_option maxRecDepth 100000
set_option linter.unusedSimpArgs false
set_option linter.unusedVariables false
abbrev BD := BW 72 5
abbrev GT := GrownT 5
theorem cc_ok {σ0 σ : ASt} {b : Nat} {l : List UInt8} (h : BD σ0 b l σ) : ACalls Tryz.prog 81 [.ptr b 0] σ fun v σ' => v = .tuple [] ∧ ∃ k, GT (σ0.set b (some (.obj [.ptr b 0, .sl k (bytesAV l)]))) σ' k l.length 1 := by
  rcases h with ⟨rfl, rfl⟩ | ⟨h0, k, hg⟩
  · refine (copyCheck_typ (ASt.set_same _ _ _)).mono ?_
    rintro v σ' ⟨rfl, rfl⟩
    exact ⟨rfl, .full, .inl ⟨rfl, rfl, by rw [ASt.set_set]; rfl⟩⟩
  · refine (copyCheck_used (hg.at (ASt.set_same _ _ _))).mono ?_
    rintro v σ' ⟨rfl, rfl⟩
    exact ⟨rfl, k, hg⟩
theorem bytesAV_app (l m : List UInt8) : bytesAV l ++ bytesAV m = bytesAV (l ++ m) := by simp [bytesAV]
theorem bytesAV_len (l : List UInt8) : (bytesAV l).length = l.length := by simp [bytesAV]
theorem bytes_leaves (l : List UInt8) : leaves ((bytesAV l).flatMap AV.cells) = true := by unfold bytesAV; exact leaves_map (fun _ => rfl) l
theorem bytes_well (l : List UInt8) : wellSz 1 (bytesAV l) = true := by unfold bytesAV; exact wellSz_map (f := fun c : UInt8 => AV.int .u8 c.toNat) (fun _ => ⟨rfl, rfl⟩) l
theorem appB_by {σ σ0 : ASt} {k k2 : SK} {l m : List UInt8} {ys z : List AV} {K : AV → ASt → Prop} (h : GT σ0 σ k l.length 1) (hy : ys = bytesAV m) (hl : l.length + m.length ≤ 4611686018427)
    (hK : ∀ k' σ', GT σ0 σ' k' (l ++ m).length 1 → K (.sl k' (bytesAV (l ++ m))) σ') : appC 5 1 1 z (.sl k (bytesAV l)) (.sl k2 ys) σ K := by
  subst hy
  refine appCT_by (by rw [bytesAV_len]; exact h) (bytes_well m) (bytes_leaves m) (by simp only [bytesAV_len]; omega) (by simp only [bytesAV_len]; omega) fun k' σ' hg => ?_
  rw [bytesAV_app] at hg ⊢
  rw [bytesAV_len] at hg
  exact hK k' σ' hg
theorem writeByte_ok {σ0 σ : ASt} {b : Nat} {l : List UInt8} (h : BD σ0 b l σ) (c : UInt8) (hl : l.length ≤ 1000000) :
    ACalls Tryz.prog 62 [.ptr b 0, .int .u8 c.toNat] σ fun v σ' => v = .nili ∧ BD σ0 b (l ++ [c]) σ' := by
  refine a62 (by simp) ?_
  simp (disch := first | assumption | omega | (simp only [List.length_append, List.length_cons, List.length_nil]; omega)) only [go_sem, reduceCtorEq, Nat.reduceEqDiff, Nat.reduceAdd, Nat.reduceSub, Nat.reduceMul, Nat.reduceLeDiff, Int.reduceLT, Int.reduceLE, Int.reduceEq, ↓reduceIte, Int.reduceNeg, Int.reduceAdd, Int.reduceSub, Int.reduceMul, true_imp_iff, forall_const, Nat.mul_one, Int.reduceToNat, Nat.reducePow, Int.reducePow, Bool.true_and, Bool.false_and, Bool.and_false]
  refine (cc_ok h).mono ?_
  rintro v σ1 ⟨rfl, k, hg⟩
  have hb := hg.at (ASt.set_same _ _ _)
  simp (disch := first | assumption | omega | (simp only [List.length_append, List.length_cons, List.length_nil]; omega)) only [go_sem, reduceCtorEq, Nat.reduceEqDiff, Nat.reduceAdd, Nat.reduceSub, Nat.reduceMul, Nat.reduceLeDiff, Int.reduceLT, Int.reduceLE, Int.reduceEq, ↓reduceIte, Int.reduceNeg, Int.reduceAdd, Int.reduceSub, Int.reduceMul, true_imp_iff, forall_const, Nat.mul_one, Int.reduceToNat, Nat.reducePow, Int.reducePow, Bool.true_and, Bool.false_and, Bool.and_false, hb]
  refine appB_by (m := [c]) hg rfl (by simp; omega) fun k' σ' hg' => ?_
  have hb' := hg'.at (ASt.set_same _ _ _)
  simp (disch := first | assumption | omega | (simp only [List.length_append, List.length_cons, List.length_nil]; omega)) only [go_sem, reduceCtorEq, Nat.reduceEqDiff, Nat.reduceAdd, Nat.reduceSub, Nat.reduceMul, Nat.reduceLeDiff, Int.reduceLT, Int.reduceLE, Int.reduceEq, ↓reduceIte, Int.reduceNeg, Int.reduceAdd, Int.reduceSub, Int.reduceMul, true_imp_iff, forall_const, Nat.mul_one, Int.reduceToNat, Nat.reducePow, Int.reducePow, Bool.true_and, Bool.false_and, Bool.and_false, hb']
  exact retC_by (Drop.refl _) (.refl _) ⟨rfl, .inr ⟨by simp, k', hg'.obj⟩⟩
theorem or_a : ∀ y : Int, 0 ≤ y → y < 64 → ((BitVec.ofInt 8 128 ||| BitVec.ofInt 8 y).toNat : Int) = 128 + y := by
  have key : ∀ n : Fin 64, ((BitVec.ofInt 8 128 ||| BitVec.ofInt 8 ((n.val : Nat) : Int)).toNat : Int) = 128 + ((n.val : Nat) : Int) := by decide
  intro y h0 h1
  have := key ⟨y.toNat, by omega⟩
  rwa [Int.toNat_of_nonneg h0] at this
theorem or_b : ∀ y : Int, 0 ≤ y → y < 32 → ((BitVec.ofInt 8 192 ||| BitVec.ofInt 8 y).toNat : Int) = 192 + y := by
  have key : ∀ n : Fin 32, ((BitVec.ofInt 8 192 ||| BitVec.ofInt 8 ((n.val : Nat) : Int)).toNat : Int) = 192 + ((n.val : Nat) : Int) := by decide
  intro y h0 h1
  have := key ⟨y.toNat, by omega⟩
  rwa [Int.toNat_of_nonneg h0] at this
theorem or_c : ∀ y : Int, 0 ≤ y → y < 16 → ((BitVec.ofInt 8 224 ||| BitVec.ofInt 8 y).toNat : Int) = 224 + y := by
  have key : ∀ n : Fin 16, ((BitVec.ofInt 8 224 ||| BitVec.ofInt 8 ((n.val : Nat) : Int)).toNat : Int) = 224 + ((n.val : Nat) : Int) := by decide
  intro y h0 h1
  have := key ⟨y.toNat, by omega⟩
  rwa [Int.toNat_of_nonneg h0] at this
theorem or_d : ∀ y : Int, 0 ≤ y → y < 8 → ((BitVec.ofInt 8 240 ||| BitVec.ofInt 8 y).toNat : Int) = 240 + y := by
  have key : ∀ n : Fin 8, ((BitVec.ofInt 8 240 ||| BitVec.ofInt 8 ((n.val : Nat) : Int)).toNat : Int) = 240 + ((n.val : Nat) : Int) := by decide
  intro y h0 h1
  have := key ⟨y.toNat, by omega⟩
  rwa [Int.toNat_of_nonneg h0] at this
theorem and_63 (y : Int) : ((BitVec.ofInt 8 (y % 256) &&& BitVec.ofInt 8 63).toNat : Int) = y % 64 := by
  have key : ∀ n : Fin 256, ((BitVec.ofInt 8 ((n.val : Nat) : Int) &&& BitVec.ofInt 8 63).toNat : Int) = ((n.val : Nat) : Int) % 64 := by decide
  have := key ⟨(y % 256).toNat, by omega⟩
  rw [Int.toNat_of_nonneg (by omega)] at this
  rw [this]
  omega
theorem wrap_8 (y : Int) : IntKind.wrap .u8 y = y % 256 := IntKind.wrap_u8 y
theorem encAV (r : Int) : (encodeRuneZ r).map (AV.int .u8) = bytesAV (encodeRune r) := by
  unfold bytesAV encodeRune
  rw [List.map_map]
  apply List.map_congr_left
  intro x hx
  obtain ⟨h0, h1⟩ := encodeRuneZ_byte r x hx
  simp [Function.comp]
  omega
theorem enc_len (r : Int) : (encodeRune r).length ≤ 4 := by
  have := encodeRuneZ_length r
  simp [encodeRune]
  omega
def RuneOk (r : Int) : Prop := 0 ≤ r ∧ r ≤ 1114111 ∧ ¬ (55296 ≤ r ∧ r ≤ 57343)
set_option maxHeartbeats 1000000 in
theorem appendRuneN_ok {σ0 σ : ASt} {k : SK} {l : List UInt8} (h : GT σ0 σ k l.length 1) {r : Int} (hr : RuneOk r) (h128 : 127 < r) (hl : l.length ≤ 1000000) :
    ACalls Tryz.prog 164 [.sl k (bytesAV l), .int .i32 r] σ fun v σ' => ∃ k', v = .sl k' (bytesAV (l ++ encodeRune r)) ∧ GT σ0 σ' k' (l ++ encodeRune r).length 1 := by
  obtain ⟨r0, r1, r2⟩ := hr
  have hel := enc_len r
  have hea := encAV r
  have w1 := wrap_8 r
  have w2 := wrap_8 (r / 64)
  have w3 := wrap_8 (r / 4096)
  have a1 := and_63 r
  have a2 := and_63 (r / 64)
  have a3 := and_63 (r / 4096)
  have o1 := or_a (r % 64) (by omega) (by omega)
  have o2 := or_a (r / 64 % 64) (by omega) (by omega)
  have o3 := or_a (r / 4096 % 64) (by omega) (by omega)
  refine a164 (by simp) ?_
  by_cases c1 : r ≤ 2047
  · have o4 := or_b (r / 64) (by omega) (by omega)
    have e : [AV.int .u8 ((BitVec.ofInt 8 192 ||| BitVec.ofInt 8 (r / 64)).toNat : Int), AV.int .u8 ((BitVec.ofInt 8 128 ||| BitVec.ofInt 8 ((BitVec.ofInt 8 (r % 256) &&& BitVec.ofInt 8 63).toNat : Int)).toNat : Int)] = [192 + r / 64, 128 + r % 64].map (AV.int .u8) := by
      rw [a1, o1, o4]; rfl
    rw [encodeRuneZ_two (by omega) c1] at hea
    simp (disch := first | assumption | omega | (simp only [List.length_append, List.length_cons, List.length_nil]; omega)) only [go_sem, reduceCtorEq, Nat.reduceEqDiff, Nat.reduceAdd, Nat.reduceSub, Nat.reduceMul, Nat.reduceLeDiff, Int.reduceLT, Int.reduceLE, Int.reduceEq, ↓reduceIte, Int.reduceNeg, Int.reduceAdd, Int.reduceSub, Int.reduceMul, true_imp_iff, forall_const, Nat.mul_one, Int.reduceToNat, Nat.reducePow, Int.reducePow, Bool.true_and, Bool.false_and, Bool.and_false, c1, w1]
    refine appB_by (m := encodeRune r) h (e.trans hea) (by omega) fun k' σ' hg' => ?_
    rw [List.length_append] at hg'
    simp (disch := first | assumption | omega | (simp only [List.length_append, List.length_cons, List.length_nil]; omega)) only [go_sem, reduceCtorEq, Nat.reduceEqDiff, Nat.reduceAdd, Nat.reduceSub, Nat.reduceMul, Nat.reduceLeDiff, Int.reduceLT, Int.reduceLE, Int.reduceEq, ↓reduceIte, Int.reduceNeg, Int.reduceAdd, Int.reduceSub, Int.reduceMul, true_imp_iff, forall_const, Nat.mul_one, Int.reduceToNat, Nat.reducePow, Int.reducePow, Bool.true_and, Bool.false_and, Bool.and_false]
    exact retC_by (Drop.refl _) (.refl _) ⟨k', rfl, hg'⟩
  by_cases c2 : r < 55296
  · have o4 := or_c (r / 4096) (by omega) (by omega)
    have e : [AV.int .u8 ((BitVec.ofInt 8 224 ||| BitVec.ofInt 8 (r / 4096)).toNat : Int), AV.int .u8 ((BitVec.ofInt 8 128 ||| BitVec.ofInt 8 ((BitVec.ofInt 8 (r / 64 % 256) &&& BitVec.ofInt 8 63).toNat : Int)).toNat : Int),
      AV.int .u8 ((BitVec.ofInt 8 128 ||| BitVec.ofInt 8 ((BitVec.ofInt 8 (r % 256) &&& BitVec.ofInt 8 63).toNat : Int)).toNat : Int)] = [224 + r / 4096, 128 + r / 64 % 64, 128 + r % 64].map (AV.int .u8) := by
      rw [a1, a2, o1, o2, o4]; rfl
    rw [encodeRuneZ_three (by omega)] at hea
    simp (disch := first | assumption | omega | (simp only [List.length_append, List.length_cons, List.length_nil]; omega)) only [go_sem, reduceCtorEq, Nat.reduceEqDiff, Nat.reduceAdd, Nat.reduceSub, Nat.reduceMul, Nat.reduceLeDiff, Int.reduceLT, Int.reduceLE, Int.reduceEq, ↓reduceIte, Int.reduceNeg, Int.reduceAdd, Int.reduceSub, Int.reduceMul, true_imp_iff, forall_const, Nat.mul_one, Int.reduceToNat, Nat.reducePow, Int.reducePow, Bool.true_and, Bool.false_and, Bool.and_false, c1, c2, w1, w2]
    refine appB_by (m := encodeRune r) h (e.trans hea) (by omega) fun k' σ' hg' => ?_
    rw [List.length_append] at hg'
    simp (disch := first | assumption | omega | (simp only [List.length_append, List.length_cons, List.length_nil]; omega)) only [go_sem, reduceCtorEq, Nat.reduceEqDiff, Nat.reduceAdd, Nat.reduceSub, Nat.reduceMul, Nat.reduceLeDiff, Int.reduceLT, Int.reduceLE, Int.reduceEq, ↓reduceIte, Int.reduceNeg, Int.reduceAdd, Int.reduceSub, Int.reduceMul, true_imp_iff, forall_const, Nat.mul_one, Int.reduceToNat, Nat.reducePow, Int.reducePow, Bool.true_and, Bool.false_and, Bool.and_false]
    exact retC_by (Drop.refl _) (.refl _) ⟨k', rfl, hg'⟩
  have c3 : 57343 < r := by omega
  by_cases c4 : r ≤ 65535
  · have o4 := or_c (r / 4096) (by omega) (by omega)
    have e : [AV.int .u8 ((BitVec.ofInt 8 224 ||| BitVec.ofInt 8 (r / 4096)).toNat : Int), AV.int .u8 ((BitVec.ofInt 8 128 ||| BitVec.ofInt 8 ((BitVec.ofInt 8 (r / 64 % 256) &&& BitVec.ofInt 8 63).toNat : Int)).toNat : Int),
      AV.int .u8 ((BitVec.ofInt 8 128 ||| BitVec.ofInt 8 ((BitVec.ofInt 8 (r % 256) &&& BitVec.ofInt 8 63).toNat : Int)).toNat : Int)] = [224 + r / 4096, 128 + r / 64 % 64, 128 + r % 64].map (AV.int .u8) := by
      rw [a1, a2, o1, o2, o4]; rfl
    rw [encodeRuneZ_three (by omega)] at hea
    simp (disch := first | assumption | omega | (simp only [List.length_append, List.length_cons, List.length_nil]; omega)) only [go_sem, reduceCtorEq, Nat.reduceEqDiff, Nat.reduceAdd, Nat.reduceSub, Nat.reduceMul, Nat.reduceLeDiff, Int.reduceLT, Int.reduceLE, Int.reduceEq, ↓reduceIte, Int.reduceNeg, Int.reduceAdd, Int.reduceSub, Int.reduceMul, true_imp_iff, forall_const, Nat.mul_one, Int.reduceToNat, Nat.reducePow, Int.reducePow, Bool.true_and, Bool.false_and, Bool.and_false, c1, c2, c3, c4, w1, w2]
    refine appB_by (m := encodeRune r) h (e.trans hea) (by omega) fun k' σ' hg' => ?_
    rw [List.length_append] at hg'
    simp (disch := first | assumption | omega | (simp only [List.length_append, List.length_cons, List.length_nil]; omega)) only [go_sem, reduceCtorEq, Nat.reduceEqDiff, Nat.reduceAdd, Nat.reduceSub, Nat.reduceMul, Nat.reduceLeDiff, Int.reduceLT, Int.reduceLE, Int.reduceEq, ↓reduceIte, Int.reduceNeg, Int.reduceAdd, Int.reduceSub, Int.reduceMul, true_imp_iff, forall_const, Nat.mul_one, Int.reduceToNat, Nat.reducePow, Int.reducePow, Bool.true_and, Bool.false_and, Bool.and_false]
    exact retC_by (Drop.refl _) (.refl _) ⟨k', rfl, hg'⟩
  · have c5 : 65535 < r := by omega
    have o4 := or_d (r / 262144) (by omega) (by omega)
    have e : [AV.int .u8 ((BitVec.ofInt 8 240 ||| BitVec.ofInt 8 (r / 262144)).toNat : Int), AV.int .u8 ((BitVec.ofInt 8 128 ||| BitVec.ofInt 8 ((BitVec.ofInt 8 (r / 4096 % 256) &&& BitVec.ofInt 8 63).toNat : Int)).toNat : Int),
      AV.int .u8 ((BitVec.ofInt 8 128 ||| BitVec.ofInt 8 ((BitVec.ofInt 8 (r / 64 % 256) &&& BitVec.ofInt 8 63).toNat : Int)).toNat : Int), AV.int .u8 ((BitVec.ofInt 8 128 ||| BitVec.ofInt 8 ((BitVec.ofInt 8 (r % 256) &&& BitVec.ofInt 8 63).toNat : Int)).toNat : Int)] = [240 + r / 262144, 128 + r / 4096 % 64, 128 + r / 64 % 64, 128 + r % 64].map (AV.int .u8) := by
      rw [a1, a2, a3, o1, o2, o3, o4]; rfl
    rw [encodeRuneZ_four (by omega) (by omega)] at hea
    simp (disch := first | assumption | omega | (simp only [List.length_append, List.length_cons, List.length_nil]; omega)) only [go_sem, reduceCtorEq, Nat.reduceEqDiff, Nat.reduceAdd, Nat.reduceSub, Nat.reduceMul, Nat.reduceLeDiff, Int.reduceLT, Int.reduceLE, Int.reduceEq, ↓reduceIte, Int.reduceNeg, Int.reduceAdd, Int.reduceSub, Int.reduceMul, true_imp_iff, forall_const, Nat.mul_one, Int.reduceToNat, Nat.reducePow, Int.reducePow, Bool.true_and, Bool.false_and, Bool.and_false, c1, c2, c3, c4, c5, w1, w2, w3]
    refine appB_by (m := encodeRune r) h (e.trans hea) (by omega) fun k' σ' hg' => ?_
    rw [List.length_append] at hg'
    simp (disch := first | assumption | omega | (simp only [List.length_append, List.length_cons, List.length_nil]; omega)) only [go_sem, reduceCtorEq, Nat.reduceEqDiff, Nat.reduceAdd, Nat.reduceSub, Nat.reduceMul, Nat.reduceLeDiff, Int.reduceLT, Int.reduceLE, Int.reduceEq, ↓reduceIte, Int.reduceNeg, Int.reduceAdd, Int.reduceSub, Int.reduceMul, true_imp_iff, forall_const, Nat.mul_one, Int.reduceToNat, Nat.reducePow, Int.reducePow, Bool.true_and, Bool.false_and, Bool.and_false]
    exact retC_by (Drop.refl _) (.refl _) ⟨k', rfl, hg'⟩
theorem appendRune_ok {σ0 σ : ASt} {k : SK} {l : List UInt8} (h : GT σ0 σ k l.length 1) {r : Int} (hr : RuneOk r) (hl : l.length ≤ 1000000) :
    ACalls Tryz.prog 158 [.sl k (bytesAV l), .int .i32 r] σ fun v σ' => ∃ k', v = .sl k' (bytesAV (l ++ encodeRune r)) ∧ GT σ0 σ' k' (l ++ encodeRune r).length 1 := by
  obtain ⟨r0, r1, r2⟩ := hr
  have hel := enc_len r
  have hea := encAV r
  refine a158 (by simp) ?_
  by_cases c1 : r ≤ 127
  · rw [encodeRuneZ_one r0 c1] at hea
    simp (disch := first | assumption | omega | (simp only [List.length_append, List.length_cons, List.length_nil]; omega)) only [go_sem, reduceCtorEq, Nat.reduceEqDiff, Nat.reduceAdd, Nat.reduceSub, Nat.reduceMul, Nat.reduceLeDiff, Int.reduceLT, Int.reduceLE, Int.reduceEq, ↓reduceIte, Int.reduceNeg, Int.reduceAdd, Int.reduceSub, Int.reduceMul, true_imp_iff, forall_const, Nat.mul_one, Int.reduceToNat, Nat.reducePow, Int.reducePow, Bool.true_and, Bool.false_and, Bool.and_false, c1]
    refine appB_by (m := encodeRune r) h hea (by omega) fun k' σ' hg' => ?_
    rw [List.length_append] at hg'
    simp (disch := first | assumption | omega | (simp only [List.length_append, List.length_cons, List.length_nil]; omega)) only [go_sem, reduceCtorEq, Nat.reduceEqDiff, Nat.reduceAdd, Nat.reduceSub, Nat.reduceMul, Nat.reduceLeDiff, Int.reduceLT, Int.reduceLE, Int.reduceEq, ↓reduceIte, Int.reduceNeg, Int.reduceAdd, Int.reduceSub, Int.reduceMul, true_imp_iff, forall_const, Nat.mul_one, Int.reduceToNat, Nat.reducePow, Int.reducePow, Bool.true_and, Bool.false_and, Bool.and_false]
    exact retC_by (Drop.refl _) (.refl _) ⟨k', rfl, hg'⟩
  · simp (disch := first | assumption | omega | (simp only [List.length_append, List.length_cons, List.length_nil]; omega)) only [go_sem, reduceCtorEq, Nat.reduceEqDiff, Nat.reduceAdd, Nat.reduceSub, Nat.reduceMul, Nat.reduceLeDiff, Int.reduceLT, Int.reduceLE, Int.reduceEq, ↓reduceIte, Int.reduceNeg, Int.reduceAdd, Int.reduceSub, Int.reduceMul, true_imp_iff, forall_const, Nat.mul_one, Int.reduceToNat, Nat.reducePow, Int.reducePow, Bool.true_and, Bool.false_and, Bool.and_false, c1]
    refine (appendRuneN_ok h ⟨r0, r1, r2⟩ (by omega) hl).mono ?_
    rintro v σ' ⟨k', rfl, hg'⟩
    rw [List.length_append] at hg'
    simp (disch := first | assumption | omega | (simp only [List.length_append, List.length_cons, List.length_nil]; omega)) only [go_sem, reduceCtorEq, Nat.reduceEqDiff, Nat.reduceAdd, Nat.reduceSub, Nat.reduceMul, Nat.reduceLeDiff, Int.reduceLT, Int.reduceLE, Int.reduceEq, ↓reduceIte, Int.reduceNeg, Int.reduceAdd, Int.reduceSub, Int.reduceMul, true_imp_iff, forall_const, Nat.mul_one, Int.reduceToNat, Nat.reducePow, Int.reducePow, Bool.true_and, Bool.false_and, Bool.and_false]
    exact retC_by (Drop.refl _) (.refl _) ⟨k', rfl, hg'⟩
theorem writeRune_ok {σ0 σ : ASt} {b : Nat} {l : List UInt8} (h : BD σ0 b l σ) {r : Int} (hr : RuneOk r) (hl : l.length ≤ 1000000) :
    ACalls Tryz.prog 141 [.ptr b 0, .int .i32 r] σ fun v σ' => BD σ0 b (l ++ encodeRune r) σ' := by
  refine a141 (by simp) ?_
  have hel := enc_len r
  have hne : encodeRune r ≠ [] := by
    intro h
    have := encodeRuneZ_length r
    have h2 := congrArg List.length h
    simp [encodeRune] at h2
    rw [h2] at this
    simp at this
  simp (disch := first | assumption | omega | (simp only [List.length_append, List.length_cons, List.length_nil]; omega)) only [go_sem, reduceCtorEq, Nat.reduceEqDiff, Nat.reduceAdd, Nat.reduceSub, Nat.reduceMul, Nat.reduceLeDiff, Int.reduceLT, Int.reduceLE, Int.reduceEq, ↓reduceIte, Int.reduceNeg, Int.reduceAdd, Int.reduceSub, Int.reduceMul, true_imp_iff, forall_const, Nat.mul_one, Int.reduceToNat, Nat.reducePow, Int.reducePow, Bool.true_and, Bool.false_and, Bool.and_false]
  refine (cc_ok h).mono ?_
  rintro v σ1 ⟨rfl, k, hg⟩
  have hb := hg.at (ASt.set_same _ _ _)
  have hbl := bytesAV_len l
  simp (disch := first | assumption | omega | (simp only [List.length_append, List.length_cons, List.length_nil]; omega)) only [go_sem, reduceCtorEq, Nat.reduceEqDiff, Nat.reduceAdd, Nat.reduceSub, Nat.reduceMul, Nat.reduceLeDiff, Int.reduceLT, Int.reduceLE, Int.reduceEq, ↓reduceIte, Int.reduceNeg, Int.reduceAdd, Int.reduceSub, Int.reduceMul, true_imp_iff, forall_const, Nat.mul_one, Int.reduceToNat, Nat.reducePow, Int.reducePow, Bool.true_and, Bool.false_and, Bool.and_false, hb, hbl]
  refine (appendRune_ok hg hr hl).mono ?_
  rintro v σ' ⟨k', rfl, hg'⟩
  have hb' := hg'.at (ASt.set_same _ _ _)
  have hbl' := bytesAV_len (l ++ encodeRune r)
  have hll : (l ++ encodeRune r).length ≤ 1000004 := by simp; omega
  simp (disch := first | assumption | omega | (simp only [List.length_append, List.length_cons, List.length_nil]; omega)) only [go_sem, reduceCtorEq, Nat.reduceEqDiff, Nat.reduceAdd, Nat.reduceSub, Nat.reduceMul, Nat.reduceLeDiff, Int.reduceLT, Int.reduceLE, Int.reduceEq, ↓reduceIte, Int.reduceNeg, Int.reduceAdd, Int.reduceSub, Int.reduceMul, true_imp_iff, forall_const, Nat.mul_one, Int.reduceToNat, Nat.reducePow, Int.reducePow, Bool.true_and, Bool.false_and, Bool.and_false, hb', hbl']
  exact retC_by (Drop.refl _) (.refl _) (.inr ⟨by simp [hne], k', hg'.obj⟩)
theorem bstring_ok {σ0 σ : ASt} {b : Nat} {l : List UInt8} (h : BD σ0 b l σ) (hl : l.length ≤ 1000000000) : ACalls Tryz.prog 33 [.ptr b 0] σ fun v σ' => v = .str l ∧ σ' = σ := by
  rcases h with ⟨rfl, rfl⟩ | ⟨h0, k, hg⟩
  · exact bstring_typ (ASt.set_same _ _ _)
  · have hb := hg.at (ASt.set_same _ _ _)
    rcases hg with ⟨_, h1, _⟩ | ⟨g, rfl, hg, rfl⟩
    · exact absurd (List.eq_nil_of_length_eq_zero h1) h0
    · refine bstring_used h0 (by omega) hb (by rw [ASt.set_same, Nat.mul_one])
end Go.A
namespace Go.A
open Go.Proofs
/-! 20: tabular/expr.Signs -/
def c20_0 : ACode := .ops [
    ⟨(some 0), none, .q (.mv (.v (.sl .full []))), []⟩]
def c20_1 : ACode := .ops [
    ⟨(some 1), none, .q (.bsl 1 [(.v (.str [43])), (.v (.str [45])), (.v (.str [42])), (.v (.str [47])), (.v (.str [94])), (.v (.str [38])), (.v (.str [61])), (.v (.str [60, 62])), (.v (.str [60])), (.v (.str [60, 61])), (.v (.str [62])), (.v (.str [62, 61]))]), []⟩,
    ⟨(some 0), none, .q (.mv (.t 1)), []⟩]
def c20_2 : ACode := .seq c20_1 .ret
def c20_3 : ACode := .seq c20_0 c20_2
@[go_sem] theorem c20_0_wp : type_of% (wp_of c20_0.eq_1) := wp_of c20_0.eq_1
@[go_sem] theorem c20_1_wp : type_of% (wp_of c20_1.eq_1) := wp_of c20_1.eq_1
@[go_sem] theorem c20_2_wp : type_of% (wp_of c20_2.eq_1) := wp_of c20_2.eq_1
@[go_sem] theorem c20_3_wp : type_of% (wp_of c20_3.eq_1) := wp_of c20_3.eq_1
def c20 : AFn := ⟨2, [.t 0], c20_3⟩
set_option maxRecDepth 100000 in
theorem c20_ok : compF Tryz.prog Tryz.f20 = some c20 := by kernel_rfl
theorem a20 {args : List AV} {σ : ASt} {R : AV → ASt → Prop} (hl : args.length ≤ 2) (h : c20_3.wp Tryz.prog (RetQ [.t 0] R) (init args) σ) : ACalls Tryz.prog 20 args σ R := acalls_of Tryz.func20 c20_ok hl h
/-! 56: (*strings.Builder).WriteString -/
def c56_0 : ACode := .ops [
    ⟨(some 4), none, .q (.mv (.v (.int .i64 0))), []⟩,
    ⟨(some 5), none, .q (.mv (.v .nili)), []⟩]
def c56_1 : ACode := .ops [
    ⟨(some 6), none, .q (.mv (.t 0)), []⟩,
    ⟨(some 7), none, .e (.call 81 [(.t 6)]), []⟩]
def c56_2 : ACode := .ops [
    ⟨(some 8), none, .q (.mv (.t 0)), []⟩,
    ⟨(some 9), none, .q (.mv (.t 0)), []⟩,
    ⟨(some 10), none, .q (.nc (.t 9)), []⟩,
    ⟨(some 11), none, .q (.fa 1 (.t 10)), []⟩,
    ⟨(some 12), none, .q (.ld none (.t 11)), []⟩,
    ⟨(some 13), none, .q (.mv (.t 1)), []⟩,
    ⟨(some 14), none, .e (.apps 5 (.t 12) (.t 13)), []⟩,
    ⟨(some 15), none, .q (.nc (.t 8)), []⟩,
    ⟨(some 16), none, .q (.fa 1 (.t 15)), []⟩,
    ⟨none, none, .e (.store 1 (.t 16) (.t 14)), []⟩]
def c56_3 : ACode := .ops [
    ⟨(some 17), none, .q (.mv (.t 1)), []⟩,
    ⟨(some 18), none, .q (.lenS (.t 17)), []⟩,
    ⟨(some 4), none, .q (.mv (.t 18)), []⟩,
    ⟨(some 5), none, .q (.mv (.v .nili)), []⟩]
def c56_4 : ACode := .seq c56_3 .ret
def c56_5 : ACode := .seq c56_2 c56_4
def c56_6 : ACode := .seq c56_1 c56_5
def c56_7 : ACode := .seq c56_0 c56_6
@[go_sem] theorem c56_0_wp : type_of% (wp_of c56_0.eq_1) := wp_of c56_0.eq_1
@[go_sem] theorem c56_1_wp : type_of% (wp_of c56_1.eq_1) := wp_of c56_1.eq_1
@[go_sem] theorem c56_2_wp : type_of% (wp_of c56_2.eq_1) := wp_of c56_2.eq_1
@[go_sem] theorem c56_3_wp : type_of% (wp_of c56_3.eq_1) := wp_of c56_3.eq_1
@[go_sem] theorem c56_4_wp : type_of% (wp_of c56_4.eq_1) := wp_of c56_4.eq_1
@[go_sem] theorem c56_5_wp : type_of% (wp_of c56_5.eq_1) := wp_of c56_5.eq_1
@[go_sem] theorem c56_6_wp : type_of% (wp_of c56_6.eq_1) := wp_of c56_6.eq_1
@[go_sem] theorem c56_7_wp : type_of% (wp_of c56_7.eq_1) := wp_of c56_7.eq_1
def c56 : AFn := ⟨19, [.t 4, .t 5], c56_7⟩
set_option maxRecDepth 100000 in
theorem c56_ok : compF Tryz.prog Tryz.f56 = some c56 := by kernel_rfl
theorem a56 {args : List AV} {σ : ASt} {R : AV → ASt → Prop} (hl : args.length ≤ 19) (h : c56_7.wp Tryz.prog (RetQ [.t 4, .t 5] R) (init args) σ) : ACalls Tryz.prog 56 args σ R := acalls_of Tryz.func56 c56_ok hl h
/-! 59: tabular/expr.truth -/
def c59_0 : ACode := .ops [
    ⟨(some 2), none, .q (.mv (.v (.str []))), []⟩]
def c59_1 : ACode := .ops [
    ⟨(some 3), none, .q (.mv (.t 0)), []⟩]
def c59_2 : ACode := .ops [
    ⟨(some 2), none, .q (.mv (.v (.str [84, 82, 85, 69]))), []⟩]
def c59_3 : ACode := .seq c59_2 .ret
def c59_4 : ACode := .cond (.t 3) c59_3 .skip
def c59_5 : ACode := .seq c59_1 c59_4
def c59_6 : ACode := .ops [
    ⟨(some 2), none, .q (.mv (.v (.str [70, 65, 76, 83, 69]))), []⟩]
def c59_7 : ACode := .seq c59_6 .ret
def c59_8 : ACode := .seq c59_5 c59_7
def c59_9 : ACode := .seq c59_0 c59_8
@[go_sem] theorem c59_0_wp : type_of% (wp_of c59_0.eq_1) := wp_of c59_0.eq_1
@[go_sem] theorem c59_1_wp : type_of% (wp_of c59_1.eq_1) := wp_of c59_1.eq_1
@[go_sem] theorem c59_2_wp : type_of% (wp_of c59_2.eq_1) := wp_of c59_2.eq_1
@[go_sem] theorem c59_3_wp : type_of% (wp_of c59_3.eq_1) := wp_of c59_3.eq_1
@[go_sem] theorem c59_4_wp : type_of% (wp_of c59_4.eq_1) := wp_of c59_4.eq_1
@[go_sem] theorem c59_5_wp : type_of% (wp_of c59_5.eq_1) := wp_of c59_5.eq_1
@[go_sem] theorem c59_6_wp : type_of% (wp_of c59_6.eq_1) := wp_of c59_6.eq_1
@[go_sem] theorem c59_7_wp : type_of% (wp_of c59_7.eq_1) := wp_of c59_7.eq_1
@[go_sem] theorem c59_8_wp : type_of% (wp_of c59_8.eq_1) := wp_of c59_8.eq_1
@[go_sem] theorem c59_9_wp : type_of% (wp_of c59_9.eq_1) := wp_of c59_9.eq_1
def c59 : AFn := ⟨4, [.t 2], c59_9⟩
set_option maxRecDepth 100000 in
theorem c59_ok : compF Tryz.prog Tryz.f59 = some c59 := by kernel_rfl
theorem a59 {args : List AV} {σ : ASt} {R : AV → ASt → Prop} (hl : args.length ≤ 4) (h : c59_9.wp Tryz.prog (RetQ [.t 2] R) (init args) σ) : ACalls Tryz.prog 59 args σ R := acalls_of Tryz.func59 c59_ok hl h
/-! 64: tabular/expr.level -/
def c64_0 : ACode := .ops [
    ⟨(some 2), none, .q (.mv (.v (.int .i64 0))), []⟩]
def c64_1 : ACode := .ops [
    ⟨(some 4), none, .q (.mv (.t 0)), []⟩,
    ⟨(some 5), none, .q (.bin .eql (.t 4) (.v (.int .i64 7))), []⟩,
    ⟨(some 6), none, .q (.mv (.t 5)), []⟩,
    ⟨(some 7), (some (6, false)), .q (.mv (.t 0)), []⟩,
    ⟨(some 8), (some (6, false)), .q (.bin .eql (.t 7) (.v (.int .i64 8))), []⟩,
    ⟨(some 9), none, .q (.pick (.t 6) (.v (.bool true)) (.t 8)), []⟩,
    ⟨(some 3), none, .q (.mv (.t 9)), []⟩]
def c64_2 : ACode := .ops [
    ⟨(some 2), none, .q (.mv (.v (.int .i64 6))), []⟩]
def c64_3 : ACode := .seq c64_2 .ret
def c64_4 : ACode := .ops [
    ⟨(some 11), none, .q (.mv (.t 0)), []⟩,
    ⟨(some 12), none, .q (.bin .eql (.t 11) (.v (.int .i64 9))), []⟩,
    ⟨(some 10), none, .q (.mv (.t 12)), []⟩]
def c64_5 : ACode := .ops [
    ⟨(some 2), none, .q (.mv (.v (.int .i64 7))), []⟩]
def c64_6 : ACode := .seq c64_5 .ret
def c64_7 : ACode := .ops [
    ⟨(some 14), none, .q (.mv (.t 0)), []⟩,
    ⟨(some 15), none, .q (.bin .lss (.t 14) (.v (.int .i64 10))), []⟩,
    ⟨(some 16), none, .q (.mv (.t 15)), []⟩,
    ⟨(some 17), (some (16, false)), .q (.mv (.t 0)), []⟩,
    ⟨(some 18), (some (16, false)), .q (.bin .geq (.t 17) (.v (.int .i64 22))), []⟩,
    ⟨(some 19), none, .q (.pick (.t 16) (.v (.bool true)) (.t 18)), []⟩,
    ⟨(some 13), none, .q (.mv (.t 19)), []⟩]
def c64_8 : ACode := .ops [
    ⟨(some 2), none, .q (.mv (.v (.int .i64 8))), []⟩]
def c64_9 : ACode := .seq c64_8 .ret
def c64_10 : ACode := .cond (.t 13) c64_9 .skip
def c64_11 : ACode := .seq c64_7 c64_10
def c64_12 : ACode := .cond (.t 10) c64_6 c64_11
def c64_13 : ACode := .seq c64_4 c64_12
def c64_14 : ACode := .cond (.t 3) c64_3 c64_13
def c64_15 : ACode := .seq c64_1 c64_14
def c64_16 : ACode := .block 0 c64_15
def c64_17 : ACode := .ops [
    ⟨(some 20), none, .q (.bsl 1 [(.v (.int .i64 3)), (.v (.int .i64 3)), (.v (.int .i64 4)), (.v (.int .i64 4)), (.v (.int .i64 5)), (.v (.int .i64 2)), (.v (.int .i64 1)), (.v (.int .i64 1)), (.v (.int .i64 1)), (.v (.int .i64 1)), (.v (.int .i64 1)), (.v (.int .i64 1))]), []⟩,
    ⟨(some 21), none, .q (.mv (.t 0)), []⟩,
    ⟨(some 22), none, .q (.bin .sub (.t 21) (.v (.int .i64 10))), []⟩,
    ⟨(some 23), none, .q (.ia 1 (.t 20) (.t 22)), []⟩,
    ⟨(some 24), none, .q (.ld none (.t 23)), []⟩,
    ⟨(some 2), none, .q (.mv (.t 24)), []⟩]
def c64_18 : ACode := .seq c64_17 .ret
def c64_19 : ACode := .seq c64_16 c64_18
def c64_20 : ACode := .seq c64_0 c64_19
@[go_sem] theorem c64_0_wp : type_of% (wp_of c64_0.eq_1) := wp_of c64_0.eq_1
@[go_sem] theorem c64_1_wp : type_of% (wp_of c64_1.eq_1) := wp_of c64_1.eq_1
@[go_sem] theorem c64_2_wp : type_of% (wp_of c64_2.eq_1) := wp_of c64_2.eq_1
@[go_sem] theorem c64_3_wp : type_of% (wp_of c64_3.eq_1) := wp_of c64_3.eq_1
@[go_sem] theorem c64_4_wp : type_of% (wp_of c64_4.eq_1) := wp_of c64_4.eq_1
@[go_sem] theorem c64_5_wp : type_of% (wp_of c64_5.eq_1) := wp_of c64_5.eq_1
@[go_sem] theorem c64_6_wp : type_of% (wp_of c64_6.eq_1) := wp_of c64_6.eq_1
@[go_sem] theorem c64_7_wp : type_of% (wp_of c64_7.eq_1) := wp_of c64_7.eq_1
@[go_sem] theorem c64_8_wp : type_of% (wp_of c64_8.eq_1) := wp_of c64_8.eq_1
@[go_sem] theorem c64_9_wp : type_of% (wp_of c64_9.eq_1) := wp_of c64_9.eq_1
@[go_sem] theorem c64_10_wp : type_of% (wp_of c64_10.eq_1) := wp_of c64_10.eq_1
@[go_sem] theorem c64_11_wp : type_of% (wp_of c64_11.eq_1) := wp_of c64_11.eq_1
@[go_sem] theorem c64_12_wp : type_of% (wp_of c64_12.eq_1) := wp_of c64_12.eq_1
@[go_sem] theorem c64_13_wp : type_of% (wp_of c64_13.eq_1) := wp_of c64_13.eq_1
@[go_sem] theorem c64_14_wp : type_of% (wp_of c64_14.eq_1) := wp_of c64_14.eq_1
@[go_sem] theorem c64_15_wp : type_of% (wp_of c64_15.eq_1) := wp_of c64_15.eq_1
@[go_sem] theorem c64_16_wp : type_of% (wp_of c64_16.eq_1) := wp_of c64_16.eq_1
@[go_sem] theorem c64_17_wp : type_of% (wp_of c64_17.eq_1) := wp_of c64_17.eq_1
@[go_sem] theorem c64_18_wp : type_of% (wp_of c64_18.eq_1) := wp_of c64_18.eq_1
@[go_sem] theorem c64_19_wp : type_of% (wp_of c64_19.eq_1) := wp_of c64_19.eq_1
@[go_sem] theorem c64_20_wp : type_of% (wp_of c64_20.eq_1) := wp_of c64_20.eq_1
def c64 : AFn := ⟨25, [.t 2], c64_20⟩
set_option maxRecDepth 100000 in
theorem c64_ok : compF Tryz.prog Tryz.f64 = some c64 := by kernel_rfl
theorem a64 {args : List AV} {σ : ASt} {R : AV → ASt → Prop} (hl : args.length ≤ 25) (h : c64_20.wp Tryz.prog (RetQ [.t 2] R) (init args) σ) : ACalls Tryz.prog 64 args σ R := acalls_of Tryz.func64 c64_ok hl h
end Go.A
namespace Go.A
open Go.Proofs Go.Lib
set_option maxRecDepth 100000
set_option linter.unusedSimpArgs false
set_option linter.unusedVariables false
section
variable {T U : TypeId} {σ0 σ : ASt} {b c x : Nat} {l : List UInt8} {r : Role}
theorem BW.role (h : BW T U σ0 b l σ) : σ b ≠ none := by
  rcases h with ⟨_, rfl⟩ | ⟨_, k, hg⟩
  · rw [ASt.set_same]; simp
  · rw [hg.at (ASt.set_same _ _ _)]; simp
theorem BW.at (h : BW T U σ0 b l σ) (hx : x ≠ b) (h0 : σ0 x = some r) : σ x = some r := by
  rcases h with ⟨_, rfl⟩ | ⟨_, k, hg⟩
  · rw [ASt.set_ne hx]; exact h0
  · exact hg.at (by rw [ASt.set_ne hx]; exact h0)
theorem BW.add (h : BW T U σ0 b l σ) (hc : σ c = none) : BW T U (σ0.set c (some r)) b l (σ.set c (some r)) ∧ c ≠ b ∧ σ0 c = none := by
  have hcb : c ≠ b := by rintro rfl; exact h.role hc
  rcases h with ⟨h0, rfl⟩ | ⟨h0, k, h1 | ⟨t, h1, h2, rfl⟩⟩
  · rw [ASt.set_ne hcb] at hc
    exact ⟨.inl ⟨h0, set_swap (Ne.symm hcb)⟩, hcb, hc⟩
  · obtain ⟨h1, h2, rfl⟩ := h1
    rw [ASt.set_ne hcb] at hc
    exact ⟨.inr ⟨h0, k, .inl ⟨h1, h2, set_swap (Ne.symm hcb)⟩⟩, hcb, hc⟩
  · obtain ⟨h3, h4, hc⟩ := set_none hc
    rw [ASt.set_ne hcb] at hc
    obtain ⟨h5, h6, h7⟩ := set_none h2
    refine ⟨.inr ⟨h0, k, .inr ⟨t, h1, ?_, ?_⟩⟩, hcb, hc⟩
    · rw [ASt.set_ne h5, ASt.set_ne (Ne.symm h3)]; exact h7
    · rw [set_swap h4, set_swap (Ne.symm hcb)]
theorem BW.off (h : BW T U (σ0.set c (some r)) b l σ) (hcb : c ≠ b) (hc : σ0 c = none) : ∃ σ', Drop σ σ' ∧ BW T U σ0 b l σ' := by
  rcases h with ⟨h0, rfl⟩ | ⟨h0, k, h1 | ⟨t, h1, h2, rfl⟩⟩
  · refine ⟨_, ?_, .inl ⟨h0, rfl⟩⟩
    rw [set_swap hcb]
    exact Drop.set (by rw [ASt.set_ne hcb]; exact hc)
  · obtain ⟨h1, h2, rfl⟩ := h1
    refine ⟨_, ?_, .inr ⟨h0, k, .inl ⟨h1, h2, rfl⟩⟩⟩
    rw [set_swap hcb]
    exact Drop.set (by rw [ASt.set_ne hcb]; exact hc)
  · obtain ⟨h3, h4, h5⟩ := set_none h2
    obtain ⟨h6, h7, h8⟩ := set_none h5
    refine ⟨(σ0.set b (some (.obj [.ptr b 0, .sl k (bytesAV l)]))).set t (some (.tok (l.length * 1))), ?_, .inr ⟨h0, k, .inr ⟨t, h1, ?_, rfl⟩⟩⟩
    · rw [set_swap hcb, set_swap h7]
      exact Drop.set (by rw [ASt.set_ne h7, ASt.set_ne hcb]; exact hc)
    · rw [ASt.set_ne h3]; exact h8
end
theorem appsB_by {σ σ0 : ASt} {k : SK} {l m : List UInt8} {K : AV → ASt → Prop} (h : GT σ0 σ k l.length 1) (hl : l.length + m.length ≤ 4611686018427)
    (hK : ∀ k' σ', GT σ0 σ' k' (l ++ m).length 1 → K (.sl k' (bytesAV (l ++ m))) σ') : appsC 5 (.sl k (bytesAV l)) (.str m) σ K := by
  refine appsCT_by (by rw [bytesAV_len]; exact h) (by rw [bytesAV_len]; omega) fun k' σ' hg => ?_
  rw [bytesAV_app]
  rw [bytesAV_len] at hg
  exact hK k' σ' (by rw [List.length_append]; exact hg)
theorem writes_ok {σ0 σ : ASt} {b : Nat} {l : List UInt8} (h : BD σ0 b l σ) (m : List UInt8) (hl : l.length + m.length ≤ 1000000) :
    ACalls Tryz.prog 56 [.ptr b 0, .str m] σ fun v σ' => v = .tuple [.int .i64 m.length, .nili] ∧ ((l ++ m = [] ∧ ∃ k, GT (σ0.set b (some (.obj [.ptr b 0, .sl k []]))) σ' k 0 1) ∨ BD σ0 b (l ++ m) σ') := by
  refine a56 (by simp) ?_
  simp (disch := first | assumption | omega | (simp only [List.length_append, List.length_cons, List.length_nil]; omega)) only [go_sem, reduceCtorEq, Nat.reduceEqDiff, Nat.reduceAdd, Nat.reduceSub, Nat.reduceMul, Nat.reduceLeDiff, Int.reduceLT, Int.reduceLE, Int.reduceEq, ↓reduceIte, Int.reduceNeg, Int.reduceAdd, Int.reduceSub, Int.reduceMul, true_imp_iff, forall_const, Nat.mul_one, Int.reduceToNat, Nat.reducePow, Int.reducePow, Bool.true_and, Bool.false_and, Bool.and_false]
  refine (cc_ok h).mono ?_
  rintro v σ1 ⟨rfl, k, hg⟩
  have hb := hg.at (ASt.set_same _ _ _)
  simp (disch := first | assumption | omega | (simp only [List.length_append, List.length_cons, List.length_nil]; omega)) only [go_sem, reduceCtorEq, Nat.reduceEqDiff, Nat.reduceAdd, Nat.reduceSub, Nat.reduceMul, Nat.reduceLeDiff, Int.reduceLT, Int.reduceLE, Int.reduceEq, ↓reduceIte, Int.reduceNeg, Int.reduceAdd, Int.reduceSub, Int.reduceMul, true_imp_iff, forall_const, Nat.mul_one, Int.reduceToNat, Nat.reducePow, Int.reducePow, Bool.true_and, Bool.false_and, Bool.and_false, hb]
  refine appsB_by hg (by omega) fun k' σ' hg' => ?_
  have hb' := hg'.at (ASt.set_same _ _ _)
  simp (disch := first | assumption | omega | (simp only [List.length_append, List.length_cons, List.length_nil]; omega)) only [go_sem, reduceCtorEq, Nat.reduceEqDiff, Nat.reduceAdd, Nat.reduceSub, Nat.reduceMul, Nat.reduceLeDiff, Int.reduceLT, Int.reduceLE, Int.reduceEq, ↓reduceIte, Int.reduceNeg, Int.reduceAdd, Int.reduceSub, Int.reduceMul, true_imp_iff, forall_const, Nat.mul_one, Int.reduceToNat, Nat.reducePow, Int.reducePow, Bool.true_and, Bool.false_and, Bool.and_false, hb']
  refine retC_by (Drop.refl _) (.refl _) ⟨rfl, ?_⟩
  by_cases he : l ++ m = []
  · refine .inl ⟨he, k', ?_⟩
    have := hg'.obj (r' := .obj [.ptr b 0, .sl k' (bytesAV (l ++ m))])
    rw [he] at this
    rw [he]
    exact this
  · exact .inr (.inr ⟨he, k', hg'.obj⟩)
theorem writes1_ok {σ0 σ : ASt} {b : Nat} {l : List UInt8} (h : BD σ0 b l σ) (m : List UInt8) (hm : m ≠ []) (hl : l.length + m.length ≤ 1000000) :
    ACalls Tryz.prog 56 [.ptr b 0, .str m] σ fun v σ' => v = .tuple [.int .i64 m.length, .nili] ∧ BD σ0 b (l ++ m) σ' :=
  (writes_ok h m hl).mono fun _ _ ⟨h1, h2⟩ => ⟨h1, h2.resolve_left fun h => hm (List.append_eq_nil_iff.1 h.1).2⟩
theorem esigns_ok : Pure Tryz.prog 20 [] (.sl .shr (signL.map AV.str)) := by
  intro σ
  refine a20 (by simp) ?_
  simp (disch := first | assumption | omega | (simp only [List.length_append, List.length_cons, List.length_nil]; omega)) only [go_sem, reduceCtorEq, Nat.reduceEqDiff, Nat.reduceAdd, Nat.reduceSub, Nat.reduceMul, Nat.reduceLeDiff, Int.reduceLT, Int.reduceLE, Int.reduceEq, ↓reduceIte, Int.reduceNeg, Int.reduceAdd, Int.reduceSub, Int.reduceMul, true_imp_iff, forall_const, Nat.mul_one, Int.reduceToNat, Nat.reducePow, Int.reducePow, Bool.true_and, Bool.false_and, Bool.and_false]
  exact retC_by (by repeat' (first | exact Drop.refl _ | with_reducible refine Drop.off ?_ (by assumption))) (.sl _ _) ⟨rfl, rfl⟩
theorem tenames_ok : Pure Tryz.prog 51 [] (.sl .shr (errL.map AV.str)) := by
  intro σ
  refine a51 (by simp) ?_
  simp (disch := first | assumption | omega | (simp only [List.length_append, List.length_cons, List.length_nil]; omega)) only [go_sem, reduceCtorEq, Nat.reduceEqDiff, Nat.reduceAdd, Nat.reduceSub, Nat.reduceMul, Nat.reduceLeDiff, Int.reduceLT, Int.reduceLE, Int.reduceEq, ↓reduceIte, Int.reduceNeg, Int.reduceAdd, Int.reduceSub, Int.reduceMul, true_imp_iff, forall_const, Nat.mul_one, Int.reduceToNat, Nat.reducePow, Int.reducePow, Bool.true_and, Bool.false_and, Bool.and_false]
  exact retC_by (by repeat' (first | exact Drop.refl _ | with_reducible refine Drop.off ?_ (by assumption))) (.sl _ _) ⟨rfl, rfl⟩
theorem level_ok (op : Int) (h0 : -1000 ≤ op) (h1 : op ≤ 1000) : Pure Tryz.prog 64 [.int .i64 op] (.int .i64 (levelP op)) := by
  intro σ
  obtain ⟨q, hq⟩ : ∃ q, levelP op = q := ⟨_, rfl⟩
  rw [hq]
  unfold levelP at hq
  refine a64 (by simp) ?_
  by_cases h7 : op = 7
  · rw [if_pos (.inl h7)] at hq
    subst hq
    simp (disch := first | assumption | omega | (simp only [List.length_append, List.length_cons, List.length_nil]; omega)) only [go_sem, reduceCtorEq, Nat.reduceEqDiff, Nat.reduceAdd, Nat.reduceSub, Nat.reduceMul, Nat.reduceLeDiff, Int.reduceLT, Int.reduceLE, Int.reduceEq, ↓reduceIte, Int.reduceNeg, Int.reduceAdd, Int.reduceSub, Int.reduceMul, true_imp_iff, forall_const, Nat.mul_one, Int.reduceToNat, Nat.reducePow, Int.reducePow, Bool.true_and, Bool.false_and, Bool.and_false, h7]
    exact retC_by (by repeat' (first | exact Drop.refl _ | with_reducible refine Drop.off ?_ (by assumption))) (.refl _) ⟨rfl, rfl⟩
  by_cases h8 : op = 8
  · rw [if_pos (.inr h8)] at hq
    subst hq
    simp (disch := first | assumption | omega | (simp only [List.length_append, List.length_cons, List.length_nil]; omega)) only [go_sem, reduceCtorEq, Nat.reduceEqDiff, Nat.reduceAdd, Nat.reduceSub, Nat.reduceMul, Nat.reduceLeDiff, Int.reduceLT, Int.reduceLE, Int.reduceEq, ↓reduceIte, Int.reduceNeg, Int.reduceAdd, Int.reduceSub, Int.reduceMul, true_imp_iff, forall_const, Nat.mul_one, Int.reduceToNat, Nat.reducePow, Int.reducePow, Bool.true_and, Bool.false_and, Bool.and_false, h8]
    exact retC_by (by repeat' (first | exact Drop.refl _ | with_reducible refine Drop.off ?_ (by assumption))) (.refl _) ⟨rfl, rfl⟩
  rw [if_neg (by omega)] at hq
  by_cases h9 : op = 9
  · rw [if_pos h9] at hq
    subst hq
    simp (disch := first | assumption | omega | (simp only [List.length_append, List.length_cons, List.length_nil]; omega)) only [go_sem, reduceCtorEq, Nat.reduceEqDiff, Nat.reduceAdd, Nat.reduceSub, Nat.reduceMul, Nat.reduceLeDiff, Int.reduceLT, Int.reduceLE, Int.reduceEq, ↓reduceIte, Int.reduceNeg, Int.reduceAdd, Int.reduceSub, Int.reduceMul, true_imp_iff, forall_const, Nat.mul_one, Int.reduceToNat, Nat.reducePow, Int.reducePow, Bool.true_and, Bool.false_and, Bool.and_false, h9]
    exact retC_by (by repeat' (first | exact Drop.refl _ | with_reducible refine Drop.off ?_ (by assumption))) (.refl _) ⟨rfl, rfl⟩
  rw [if_neg h9] at hq
  by_cases ha : op < 10
  · rw [if_pos (.inl ha)] at hq
    subst hq
    simp (disch := first | assumption | omega | (simp only [List.length_append, List.length_cons, List.length_nil]; omega)) only [go_sem, reduceCtorEq, Nat.reduceEqDiff, Nat.reduceAdd, Nat.reduceSub, Nat.reduceMul, Nat.reduceLeDiff, Int.reduceLT, Int.reduceLE, Int.reduceEq, ↓reduceIte, Int.reduceNeg, Int.reduceAdd, Int.reduceSub, Int.reduceMul, true_imp_iff, forall_const, Nat.mul_one, Int.reduceToNat, Nat.reducePow, Int.reducePow, Bool.true_and, Bool.false_and, Bool.and_false, h7, h8, h9, ha]
    exact retC_by (by repeat' (first | exact Drop.refl _ | with_reducible refine Drop.off ?_ (by assumption))) (.refl _) ⟨rfl, rfl⟩
  by_cases hb : 22 ≤ op
  · rw [if_pos (.inr hb)] at hq
    subst hq
    simp (disch := first | assumption | omega | (simp only [List.length_append, List.length_cons, List.length_nil]; omega)) only [go_sem, reduceCtorEq, Nat.reduceEqDiff, Nat.reduceAdd, Nat.reduceSub, Nat.reduceMul, Nat.reduceLeDiff, Int.reduceLT, Int.reduceLE, Int.reduceEq, ↓reduceIte, Int.reduceNeg, Int.reduceAdd, Int.reduceSub, Int.reduceMul, true_imp_iff, forall_const, Nat.mul_one, Int.reduceToNat, Nat.reducePow, Int.reducePow, Bool.true_and, Bool.false_and, Bool.and_false, h7, h8, h9, ha, hb]
    exact retC_by (by repeat' (first | exact Drop.refl _ | with_reducible refine Drop.off ?_ (by assumption))) (.refl _) ⟨rfl, rfl⟩
  rw [if_neg (by omega)] at hq
  have hc : op = 10 ∨ op = 11 ∨ op = 12 ∨ op = 13 ∨ op = 14 ∨ op = 15 ∨ op = 16 ∨ op = 17 ∨ op = 18 ∨ op = 19 ∨ op = 20 ∨ op = 21 := by omega
  rcases hc with rfl | rfl | rfl | rfl | rfl | rfl | rfl | rfl | rfl | rfl | rfl | rfl
  all_goals
    simp at hq
    subst hq
    simp (disch := first | assumption | omega | (simp only [List.length_append, List.length_cons, List.length_nil]; omega)) only [go_sem, reduceCtorEq, Nat.reduceEqDiff, Nat.reduceAdd, Nat.reduceSub, Nat.reduceMul, Nat.reduceLeDiff, Int.reduceLT, Int.reduceLE, Int.reduceEq, ↓reduceIte, Int.reduceNeg, Int.reduceAdd, Int.reduceSub, Int.reduceMul, true_imp_iff, forall_const, Nat.mul_one, Int.reduceToNat, Nat.reducePow, Int.reducePow, Bool.true_and, Bool.false_and, Bool.and_false]
    exact retC_by (by repeat' (first | exact Drop.refl _ | with_reducible refine Drop.off ?_ (by assumption))) (.refl _) ⟨rfl, rfl⟩
theorem truth_ok (b : Bool) : Pure Tryz.prog 59 [.bool b] (.str (truthP b)) := by
  intro σ
  refine a59 (by simp) ?_
  cases b <;> simp (disch := first | assumption | omega | (simp only [List.length_append, List.length_cons, List.length_nil]; omega)) only [go_sem, reduceCtorEq, Nat.reduceEqDiff, Nat.reduceAdd, Nat.reduceSub, Nat.reduceMul, Nat.reduceLeDiff, Int.reduceLT, Int.reduceLE, Int.reduceEq, ↓reduceIte, Int.reduceNeg, Int.reduceAdd, Int.reduceSub, Int.reduceMul, true_imp_iff, forall_const, Nat.mul_one, Int.reduceToNat, Nat.reducePow, Int.reducePow, Bool.true_and, Bool.false_and, Bool.and_false]
  all_goals exact retC_by (by repeat' (first | exact Drop.refl _ | with_reducible refine Drop.off ?_ (by assumption))) (.refl _) ⟨rfl, rfl⟩
end Go.A
namespace Go.A
open Go.Proofs
/-! 13: tabular/expr.Size -/
def c13_0 : ACode := .ops [
    ⟨(some 1), none, .e (.box (.t 0)), []⟩,
    ⟨(some 2), none, .q (.mv (.v (.int .i64 0))), []⟩]
def c13_1 : ACode := .ops [
    ⟨(some 3), none, .q (.mv (.v (.int .i64 1))), []⟩]
def c13_2 : ACode := .ops [
    ⟨(some 6), none, .q (.fa 11 (.t 1)), []⟩,
    ⟨(some 7), none, .q (.ld none (.t 6)), []⟩,
    ⟨(some 8), none, .q (.len (.t 7)), []⟩,
    ⟨(some 9), none, .q (.mv (.v (.int .i64 0))), []⟩]
def c13_3 : ACode := .ops [
    ⟨(some 10), none, .q (.bin .lss (.t 9) (.t 8)), []⟩]
def c13_4 : ACode := .cond (.t 10) .skip (.exit 0)
def c13_5 : ACode := .ops [
    ⟨(some 11), none, .q (.ia 12 (.t 7) (.t 9)), []⟩,
    ⟨(some 12), none, .q (.ld (some 12) (.t 11)), []⟩,
    ⟨(some 5), none, .e (.alloc [(.int .i64 0), (.int .i64 0), (.str []), (.int .i64 0), (.int .i64 0), (.bool false), (.bool false), (.int .i64 0), (.int .i64 0), (.bool false), (.bool false), (.sl .full [])]), []⟩,
    ⟨none, none, .e (.store 12 (.t 5) (.t 12)), []⟩]
def c13_6 : ACode := .ops [
    ⟨(some 13), none, .q (.mv (.t 3)), []⟩,
    ⟨(some 14), none, .q (.ld (some 12) (.t 5)), []⟩,
    ⟨(some 15), none, .e (.call 13 [(.t 14)]), []⟩,
    ⟨(some 16), none, .q (.bin .add (.t 13) (.t 15)), []⟩,
    ⟨(some 3), none, .q (.mv (.t 16)), []⟩]
def c13_7 : ACode := .seq c13_5 c13_6
def c13_8 : ACode := .block 1 c13_7
def c13_9 : ACode := .ops [
    ⟨(some 17), none, .q (.bin .add (.t 9) (.v (.int .i64 1))), []⟩,
    ⟨(some 9), none, .q (.mv (.t 17)), []⟩]
def c13_10 : ACode := .seq c13_8 c13_9
def c13_11 : ACode := .seq c13_4 c13_10
def c13_12 : ACode := .seq c13_3 c13_11
def c13_13 : ACode := .loop c13_12
def c13_14 : ACode := .block 0 c13_13
def c13_15 : ACode := .seq c13_2 c13_14
def c13_16 : ACode := .ops [
    ⟨(some 18), none, .q (.mv (.t 3)), []⟩,
    ⟨(some 2), none, .q (.mv (.t 18)), []⟩]
def c13_17 : ACode := .seq c13_16 .ret
def c13_18 : ACode := .seq c13_15 c13_17
def c13_19 : ACode := .seq c13_1 c13_18
def c13_20 : ACode := .seq c13_0 c13_19
@[go_sem] theorem c13_0_wp : type_of% (wp_of c13_0.eq_1) := wp_of c13_0.eq_1
@[go_sem] theorem c13_1_wp : type_of% (wp_of c13_1.eq_1) := wp_of c13_1.eq_1
@[go_sem] theorem c13_2_wp : type_of% (wp_of c13_2.eq_1) := wp_of c13_2.eq_1
@[go_sem] theorem c13_3_wp : type_of% (wp_of c13_3.eq_1) := wp_of c13_3.eq_1
@[go_sem] theorem c13_4_wp : type_of% (wp_of c13_4.eq_1) := wp_of c13_4.eq_1
@[go_sem] theorem c13_5_wp : type_of% (wp_of c13_5.eq_1) := wp_of c13_5.eq_1
@[go_sem] theorem c13_6_wp : type_of% (wp_of c13_6.eq_1) := wp_of c13_6.eq_1
@[go_sem] theorem c13_7_wp : type_of% (wp_of c13_7.eq_1) := wp_of c13_7.eq_1
@[go_sem] theorem c13_8_wp : type_of% (wp_of c13_8.eq_1) := wp_of c13_8.eq_1
@[go_sem] theorem c13_9_wp : type_of% (wp_of c13_9.eq_1) := wp_of c13_9.eq_1
@[go_sem] theorem c13_10_wp : type_of% (wp_of c13_10.eq_1) := wp_of c13_10.eq_1
@[go_sem] theorem c13_11_wp : type_of% (wp_of c13_11.eq_1) := wp_of c13_11.eq_1
@[go_sem] theorem c13_12_wp : type_of% (wp_of c13_12.eq_1) := wp_of c13_12.eq_1
@[go_sem] theorem c13_13_wp : type_of% (wp_of c13_13.eq_1) := wp_of c13_13.eq_1
@[go_sem] theorem c13_14_wp : type_of% (wp_of c13_14.eq_1) := wp_of c13_14.eq_1
@[go_sem] theorem c13_15_wp : type_of% (wp_of c13_15.eq_1) := wp_of c13_15.eq_1
@[go_sem] theorem c13_16_wp : type_of% (wp_of c13_16.eq_1) := wp_of c13_16.eq_1
@[go_sem] theorem c13_17_wp : type_of% (wp_of c13_17.eq_1) := wp_of c13_17.eq_1
@[go_sem] theorem c13_18_wp : type_of% (wp_of c13_18.eq_1) := wp_of c13_18.eq_1
@[go_sem] theorem c13_19_wp : type_of% (wp_of c13_19.eq_1) := wp_of c13_19.eq_1
@[go_sem] theorem c13_20_wp : type_of% (wp_of c13_20.eq_1) := wp_of c13_20.eq_1
def c13 : AFn := ⟨19, [.t 2], c13_20⟩
set_option maxRecDepth 100000 in
theorem c13_ok : compF Tryz.prog Tryz.f13 = some c13 := by kernel_rfl
theorem a13 {args : List AV} {σ : ASt} {R : AV → ASt → Prop} (hl : args.length ≤ 19) (h : c13_20.wp Tryz.prog (RetQ [.t 2] R) (init args) σ) : ACalls Tryz.prog 13 args σ R := acalls_of Tryz.func13 c13_ok hl h
/-! 15: tabular/expr.Depth -/
def c15_0 : ACode := .ops [
    ⟨(some 1), none, .e (.box (.t 0)), []⟩,
    ⟨(some 2), none, .q (.mv (.v (.int .i64 0))), []⟩]
def c15_1 : ACode := .ops [
    ⟨(some 3), none, .q (.mv (.v (.int .i64 0))), []⟩]
def c15_2 : ACode := .ops [
    ⟨(some 6), none, .q (.fa 11 (.t 1)), []⟩,
    ⟨(some 7), none, .q (.ld none (.t 6)), []⟩,
    ⟨(some 8), none, .q (.len (.t 7)), []⟩,
    ⟨(some 9), none, .q (.mv (.v (.int .i64 0))), []⟩]
def c15_3 : ACode := .ops [
    ⟨(some 10), none, .q (.bin .lss (.t 9) (.t 8)), []⟩]
def c15_4 : ACode := .cond (.t 10) .skip (.exit 0)
def c15_5 : ACode := .ops [
    ⟨(some 11), none, .q (.ia 12 (.t 7) (.t 9)), []⟩,
    ⟨(some 12), none, .q (.ld (some 12) (.t 11)), []⟩,
    ⟨(some 5), none, .e (.alloc [(.int .i64 0), (.int .i64 0), (.str []), (.int .i64 0), (.int .i64 0), (.bool false), (.bool false), (.int .i64 0), (.int .i64 0), (.bool false), (.bool false), (.sl .full [])]), []⟩,
    ⟨none, none, .e (.store 12 (.t 5) (.t 12)), []⟩]
def c15_6 : ACode := .ops [
    ⟨(some 13), none, .q (.mv (.t 3)), []⟩,
    ⟨(some 14), none, .q (.ld (some 12) (.t 5)), []⟩,
    ⟨(some 15), none, .e (.call 15 [(.t 14)]), []⟩,
    ⟨(some 16), none, .q (.mnx true (.t 13) (.t 15)), []⟩,
    ⟨(some 3), none, .q (.mv (.t 16)), []⟩]
def c15_7 : ACode := .seq c15_5 c15_6
def c15_8 : ACode := .block 1 c15_7
def c15_9 : ACode := .ops [
    ⟨(some 17), none, .q (.bin .add (.t 9) (.v (.int .i64 1))), []⟩,
    ⟨(some 9), none, .q (.mv (.t 17)), []⟩]
def c15_10 : ACode := .seq c15_8 c15_9
def c15_11 : ACode := .seq c15_4 c15_10
def c15_12 : ACode := .seq c15_3 c15_11
def c15_13 : ACode := .loop c15_12
def c15_14 : ACode := .block 0 c15_13
def c15_15 : ACode := .seq c15_2 c15_14
def c15_16 : ACode := .ops [
    ⟨(some 18), none, .q (.mv (.t 3)), []⟩,
    ⟨(some 19), none, .q (.bin .add (.t 18) (.v (.int .i64 1))), []⟩,
    ⟨(some 2), none, .q (.mv (.t 19)), []⟩]
def c15_17 : ACode := .seq c15_16 .ret
def c15_18 : ACode := .seq c15_15 c15_17
def c15_19 : ACode := .seq c15_1 c15_18
def c15_20 : ACode := .seq c15_0 c15_19
@[go_sem] theorem c15_0_wp : type_of% (wp_of c15_0.eq_1) := wp_of c15_0.eq_1
@[go_sem] theorem c15_1_wp : type_of% (wp_of c15_1.eq_1) := wp_of c15_1.eq_1
@[go_sem] theorem c15_2_wp : type_of% (wp_of c15_2.eq_1) := wp_of c15_2.eq_1
@[go_sem] theorem c15_3_wp : type_of% (wp_of c15_3.eq_1) := wp_of c15_3.eq_1
@[go_sem] theorem c15_4_wp : type_of% (wp_of c15_4.eq_1) := wp_of c15_4.eq_1
@[go_sem] theorem c15_5_wp : type_of% (wp_of c15_5.eq_1) := wp_of c15_5.eq_1
@[go_sem] theorem c15_6_wp : type_of% (wp_of c15_6.eq_1) := wp_of c15_6.eq_1
@[go_sem] theorem c15_7_wp : type_of% (wp_of c15_7.eq_1) := wp_of c15_7.eq_1
@[go_sem] theorem c15_8_wp : type_of% (wp_of c15_8.eq_1) := wp_of c15_8.eq_1
@[go_sem] theorem c15_9_wp : type_of% (wp_of c15_9.eq_1) := wp_of c15_9.eq_1
@[go_sem] theorem c15_10_wp : type_of% (wp_of c15_10.eq_1) := wp_of c15_10.eq_1
@[go_sem] theorem c15_11_wp : type_of% (wp_of c15_11.eq_1) := wp_of c15_11.eq_1
@[go_sem] theorem c15_12_wp : type_of% (wp_of c15_12.eq_1) := wp_of c15_12.eq_1
@[go_sem] theorem c15_13_wp : type_of% (wp_of c15_13.eq_1) := wp_of c15_13.eq_1
@[go_sem] theorem c15_14_wp : type_of% (wp_of c15_14.eq_1) := wp_of c15_14.eq_1
@[go_sem] theorem c15_15_wp : type_of% (wp_of c15_15.eq_1) := wp_of c15_15.eq_1
@[go_sem] theorem c15_16_wp : type_of% (wp_of c15_16.eq_1) := wp_of c15_16.eq_1
@[go_sem] theorem c15_17_wp : type_of% (wp_of c15_17.eq_1) := wp_of c15_17.eq_1
@[go_sem] theorem c15_18_wp : type_of% (wp_of c15_18.eq_1) := wp_of c15_18.eq_1
@[go_sem] theorem c15_19_wp : type_of% (wp_of c15_19.eq_1) := wp_of c15_19.eq_1
@[go_sem] theorem c15_20_wp : type_of% (wp_of c15_20.eq_1) := wp_of c15_20.eq_1
def c15 : AFn := ⟨20, [.t 2], c15_20⟩
set_option maxRecDepth 100000 in
theorem c15_ok : compF Tryz.prog Tryz.f15 = some c15 := by kernel_rfl
theorem a15 {args : List AV} {σ : ASt} {R : AV → ASt → Prop} (hl : args.length ≤ 20) (h : c15_20.wp Tryz.prog (RetQ [.t 2] R) (init args) σ) : ACalls Tryz.prog 15 args σ R := acalls_of Tryz.func15 c15_ok hl h
/-! 25: tabular/expr.Failure -/
def c25_0 : ACode := .ops [
    ⟨(some 1), none, .e (.box (.t 0)), []⟩,
    ⟨(some 2), none, .q (.mv (.v (.str []))), []⟩]
def c25_1 : ACode := .ops [
    ⟨(some 4), none, .q (.fa 1 (.t 1)), []⟩,
    ⟨(some 5), none, .q (.ld none (.t 4)), []⟩,
    ⟨(some 6), none, .e (.call 50 [(.t 5)]), []⟩,
    ⟨(some 3), none, .q (.mv (.t 6)), []⟩]
def c25_2 : ACode := .ops [
    ⟨(some 7), none, .q (.fa 0 (.t 1)), []⟩,
    ⟨(some 8), none, .q (.ld none (.t 7)), []⟩,
    ⟨(some 9), none, .q (.bin .neq (.t 8) (.v (.int .i64 4))), []⟩,
    ⟨(some 10), none, .q (.mv (.t 9)), []⟩,
    ⟨(some 11), (some (10, false)), .q (.mv (.t 3)), []⟩,
    ⟨(some 12), (some (10, false)), .q (.bin .lss (.t 11) (.v (.int .i64 1))), []⟩,
    ⟨(some 13), none, .q (.pick (.t 10) (.v (.bool true)) (.t 12)), []⟩,
    ⟨(some 14), none, .q (.mv (.t 13)), []⟩,
    ⟨(some 15), (some (14, false)), .q (.mv (.t 3)), []⟩,
    ⟨(some 16), (some (14, false)), .e (.call 51 []), []⟩,
    ⟨(some 17), (some (14, false)), .q (.len (.t 16)), []⟩,
    ⟨(some 18), (some (14, false)), .q (.bin .gtr (.t 15) (.t 17)), []⟩,
    ⟨(some 19), none, .q (.pick (.t 14) (.v (.bool true)) (.t 18)), []⟩]
def c25_3 : ACode := .ops [
    ⟨(some 2), none, .q (.mv (.v (.str []))), []⟩]
def c25_4 : ACode := .seq c25_3 .ret
def c25_5 : ACode := .cond (.t 19) c25_4 .skip
def c25_6 : ACode := .seq c25_2 c25_5
def c25_7 : ACode := .ops [
    ⟨(some 20), none, .e (.call 51 []), []⟩,
    ⟨(some 21), none, .q (.mv (.t 3)), []⟩,
    ⟨(some 22), none, .q (.bin .sub (.t 21) (.v (.int .i64 1))), []⟩,
    ⟨(some 23), none, .q (.ia 1 (.t 20) (.t 22)), []⟩,
    ⟨(some 24), none, .q (.ld none (.t 23)), []⟩,
    ⟨(some 2), none, .q (.mv (.t 24)), []⟩]
def c25_8 : ACode := .seq c25_7 .ret
def c25_9 : ACode := .seq c25_6 c25_8
def c25_10 : ACode := .seq c25_1 c25_9
def c25_11 : ACode := .seq c25_0 c25_10
@[go_sem] theorem c25_0_wp : type_of% (wp_of c25_0.eq_1) := wp_of c25_0.eq_1
@[go_sem] theorem c25_1_wp : type_of% (wp_of c25_1.eq_1) := wp_of c25_1.eq_1
@[go_sem] theorem c25_2_wp : type_of% (wp_of c25_2.eq_1) := wp_of c25_2.eq_1
@[go_sem] theorem c25_3_wp : type_of% (wp_of c25_3.eq_1) := wp_of c25_3.eq_1
@[go_sem] theorem c25_4_wp : type_of% (wp_of c25_4.eq_1) := wp_of c25_4.eq_1
@[go_sem] theorem c25_5_wp : type_of% (wp_of c25_5.eq_1) := wp_of c25_5.eq_1
@[go_sem] theorem c25_6_wp : type_of% (wp_of c25_6.eq_1) := wp_of c25_6.eq_1
@[go_sem] theorem c25_7_wp : type_of% (wp_of c25_7.eq_1) := wp_of c25_7.eq_1
@[go_sem] theorem c25_8_wp : type_of% (wp_of c25_8.eq_1) := wp_of c25_8.eq_1
@[go_sem] theorem c25_9_wp : type_of% (wp_of c25_9.eq_1) := wp_of c25_9.eq_1
@[go_sem] theorem c25_10_wp : type_of% (wp_of c25_10.eq_1) := wp_of c25_10.eq_1
@[go_sem] theorem c25_11_wp : type_of% (wp_of c25_11.eq_1) := wp_of c25_11.eq_1
def c25 : AFn := ⟨25, [.t 2], c25_11⟩
set_option maxRecDepth 100000 in
theorem c25_ok : compF Tryz.prog Tryz.f25 = some c25 := by kernel_rfl
theorem a25 {args : List AV} {σ : ASt} {R : AV → ASt → Prop} (hl : args.length ≤ 25) (h : c25_11.wp Tryz.prog (RetQ [.t 2] R) (init args) σ) : ACalls Tryz.prog 25 args σ R := acalls_of Tryz.func25 c25_ok hl h
end Go.A
namespace Go.A
open Go.Proofs Go.Lib
set_option maxRecDepth 100000
set_option linter.unusedSimpArgs false
set_option linter.unusedVariables false
theorem failure_ok (op n : Int) (s : List UInt8) (a b : Ref) (kids : List Nd) (hn : n.natAbs ≤ 999999999999999999) : Pure Tryz.prog 25 [(Nd.mk op n s a b kids).av] (.str (failT op n)) := by
  intro σ
  have hW := whole_ok hn
  have hE := tenames_ok
  obtain ⟨q, hq⟩ : ∃ q, failT op n = q := ⟨_, rfl⟩
  rw [hq]
  unfold failT at hq
  rw [Nd.av_cs]
  generalize n.tdiv 10000 = i at *
  refine a25 (by simp) ?_
  simp (disch := first | assumption | omega | (simp only [List.length_append, List.length_cons, List.length_nil]; omega)) only [go_sem, reduceCtorEq, Nat.reduceEqDiff, Nat.reduceAdd, Nat.reduceSub, Nat.reduceMul, Nat.reduceLeDiff, Int.reduceLT, Int.reduceLE, Int.reduceEq, ↓reduceIte, Int.reduceNeg, Int.reduceAdd, Int.reduceSub, Int.reduceMul, true_imp_iff, forall_const, Nat.mul_one, Int.reduceToNat, Nat.reducePow, Int.reducePow, Bool.true_and, Bool.false_and, Bool.and_false]
  refine boxC_by rfl fun c hc => ?_
  simp (disch := first | assumption | omega | (simp only [List.length_append, List.length_cons, List.length_nil]; omega)) only [go_sem, reduceCtorEq, Nat.reduceEqDiff, Nat.reduceAdd, Nat.reduceSub, Nat.reduceMul, Nat.reduceLeDiff, Int.reduceLT, Int.reduceLE, Int.reduceEq, ↓reduceIte, Int.reduceNeg, Int.reduceAdd, Int.reduceSub, Int.reduceMul, true_imp_iff, forall_const, Nat.mul_one, Int.reduceToNat, Nat.reducePow, Int.reducePow, Bool.true_and, Bool.false_and, Bool.and_false]
  refine hW.use ?_
  by_cases h4 : op = 4
  · by_cases h2 : i < 1
    · rw [if_pos (.inr (.inl h2))] at hq
      subst hq
      simp (disch := first | assumption | omega | (simp only [List.length_append, List.length_cons, List.length_nil]; omega)) only [go_sem, reduceCtorEq, Nat.reduceEqDiff, Nat.reduceAdd, Nat.reduceSub, Nat.reduceMul, Nat.reduceLeDiff, Int.reduceLT, Int.reduceLE, Int.reduceEq, ↓reduceIte, Int.reduceNeg, Int.reduceAdd, Int.reduceSub, Int.reduceMul, true_imp_iff, forall_const, Nat.mul_one, Int.reduceToNat, Nat.reducePow, Int.reducePow, Bool.true_and, Bool.false_and, Bool.and_false, h4, h2]
      exact retC_by (by repeat' (first | exact Drop.refl _ | with_reducible refine Drop.off ?_ (by assumption))) (.refl _) ⟨rfl, rfl⟩
    · by_cases h3 : 7 < i
      · rw [if_pos (.inr (.inr h3))] at hq
        subst hq
        simp (disch := first | assumption | omega | (simp only [List.length_append, List.length_cons, List.length_nil]; omega)) only [go_sem, reduceCtorEq, Nat.reduceEqDiff, Nat.reduceAdd, Nat.reduceSub, Nat.reduceMul, Nat.reduceLeDiff, Int.reduceLT, Int.reduceLE, Int.reduceEq, ↓reduceIte, Int.reduceNeg, Int.reduceAdd, Int.reduceSub, Int.reduceMul, true_imp_iff, forall_const, Nat.mul_one, Int.reduceToNat, Nat.reducePow, Int.reducePow, Bool.true_and, Bool.false_and, Bool.and_false, h4, h2]
        refine hE.use ?_
        unfold errL
        simp (disch := first | assumption | omega | (simp only [List.length_append, List.length_cons, List.length_nil]; omega)) only [go_sem, reduceCtorEq, Nat.reduceEqDiff, Nat.reduceAdd, Nat.reduceSub, Nat.reduceMul, Nat.reduceLeDiff, Int.reduceLT, Int.reduceLE, Int.reduceEq, ↓reduceIte, Int.reduceNeg, Int.reduceAdd, Int.reduceSub, Int.reduceMul, true_imp_iff, forall_const, Nat.mul_one, Int.reduceToNat, Nat.reducePow, Int.reducePow, Bool.true_and, Bool.false_and, Bool.and_false, h3]
        exact retC_by (by repeat' (first | exact Drop.refl _ | with_reducible refine Drop.off ?_ (by assumption))) (.refl _) ⟨rfl, rfl⟩
      · rw [if_neg (by omega)] at hq
        have hc : i = 1 ∨ i = 2 ∨ i = 3 ∨ i = 4 ∨ i = 5 ∨ i = 6 ∨ i = 7 := by omega
        subst hq
        rcases hc with rfl | rfl | rfl | rfl | rfl | rfl | rfl
        all_goals
          simp (disch := first | assumption | omega | (simp only [List.length_append, List.length_cons, List.length_nil]; omega)) only [go_sem, reduceCtorEq, Nat.reduceEqDiff, Nat.reduceAdd, Nat.reduceSub, Nat.reduceMul, Nat.reduceLeDiff, Int.reduceLT, Int.reduceLE, Int.reduceEq, ↓reduceIte, Int.reduceNeg, Int.reduceAdd, Int.reduceSub, Int.reduceMul, true_imp_iff, forall_const, Nat.mul_one, Int.reduceToNat, Nat.reducePow, Int.reducePow, Bool.true_and, Bool.false_and, Bool.and_false, h4]
          refine hE.use ?_
          unfold errL
          simp (disch := first | assumption | omega | (simp only [List.length_append, List.length_cons, List.length_nil]; omega)) only [go_sem, reduceCtorEq, Nat.reduceEqDiff, Nat.reduceAdd, Nat.reduceSub, Nat.reduceMul, Nat.reduceLeDiff, Int.reduceLT, Int.reduceLE, Int.reduceEq, ↓reduceIte, Int.reduceNeg, Int.reduceAdd, Int.reduceSub, Int.reduceMul, true_imp_iff, forall_const, Nat.mul_one, Int.reduceToNat, Nat.reducePow, Int.reducePow, Bool.true_and, Bool.false_and, Bool.and_false, h4]
          refine hE.use ?_
          unfold errL
          simp (disch := first | assumption | omega | (simp only [List.length_append, List.length_cons, List.length_nil]; omega)) only [go_sem, reduceCtorEq, Nat.reduceEqDiff, Nat.reduceAdd, Nat.reduceSub, Nat.reduceMul, Nat.reduceLeDiff, Int.reduceLT, Int.reduceLE, Int.reduceEq, ↓reduceIte, Int.reduceNeg, Int.reduceAdd, Int.reduceSub, Int.reduceMul, true_imp_iff, forall_const, Nat.mul_one, Int.reduceToNat, Nat.reducePow, Int.reducePow, Bool.true_and, Bool.false_and, Bool.and_false]
          exact retC_by (by repeat' (first | exact Drop.refl _ | with_reducible refine Drop.off ?_ (by assumption))) (.refl _) ⟨rfl, rfl⟩
  · rw [if_pos (.inl h4)] at hq
    subst hq
    simp (disch := first | assumption | omega | (simp only [List.length_append, List.length_cons, List.length_nil]; omega)) only [go_sem, reduceCtorEq, Nat.reduceEqDiff, Nat.reduceAdd, Nat.reduceSub, Nat.reduceMul, Nat.reduceLeDiff, Int.reduceLT, Int.reduceLE, Int.reduceEq, ↓reduceIte, Int.reduceNeg, Int.reduceAdd, Int.reduceSub, Int.reduceMul, true_imp_iff, forall_const, Nat.mul_one, Int.reduceToNat, Nat.reducePow, Int.reducePow, Bool.true_and, Bool.false_and, Bool.and_false, h4]
    exact retC_by (by repeat' (first | exact Drop.refl _ | with_reducible refine Drop.off ?_ (by assumption))) (.refl _) ⟨rfl, rfl⟩
theorem sizes_take {x : Nd} : ∀ {l : List Nd} {i : Nat}, l[i]? = some x → Nd.sizes (l.take (i + 1)) = Nd.sizes (l.take i) + x.size
  | [], i, h => by simp at h
  | y :: l, 0, h => by simp at h; subst h; simp [Nd.sizes]
  | y :: l, i + 1, h => by
    simp only [List.getElem?_cons_succ] at h
    rw [List.take_succ_cons, List.take_succ_cons, Nd.sizes, Nd.sizes, sizes_take h]
    omega
theorem sizes_le : ∀ (l : List Nd) (i : Nat), Nd.sizes (l.take i) ≤ Nd.sizes l
  | [], i => by simp [Nd.sizes]
  | y :: l, 0 => by simp [Nd.sizes]
  | y :: l, i + 1 => by rw [List.take_succ_cons, Nd.sizes, Nd.sizes]; have := sizes_le l i; omega
theorem sizes_len : ∀ l : List Nd, l.length ≤ Nd.sizes l
  | [] => by simp
  | x :: l => by have := x.size_pos; have := sizes_len l; rw [Nd.sizes, List.length_cons]; omega
theorem depths_take {x : Nd} : ∀ {l : List Nd} {i : Nat}, l[i]? = some x → Nd.depths (l.take (i + 1)) = max (Nd.depths (l.take i)) x.depth
  | [], i, h => by simp at h
  | y :: l, 0, h => by simp at h; subst h; simp [Nd.depths]
  | y :: l, i + 1, h => by
    simp only [List.getElem?_cons_succ] at h
    rw [List.take_succ_cons, List.take_succ_cons, Nd.depths, Nd.depths, depths_take h]
    omega
theorem depths_le : ∀ (l : List Nd), Nd.depths l ≤ Nd.sizes l
  | [] => by simp [Nd.depths]
  | y :: l => by rw [Nd.depths, Nd.sizes]; have := depths_le l; have := y.depth_le_size; omega
theorem depths_take_le : ∀ (l : List Nd) (i : Nat), Nd.depths (l.take i) ≤ Nd.depths l
  | [], i => by simp [Nd.depths]
  | y :: l, 0 => by simp [Nd.depths]
  | y :: l, i + 1 => by rw [List.take_succ_cons, Nd.depths, Nd.depths]; have := depths_take_le l i; omega
theorem size_le_ok : ∀ (k : Nat) (n : Nd), n.size ≤ k → n.size ≤ 1000000000 → Pure Tryz.prog 13 [n.av] (.int .i64 n.size)
  | 0, n, hk, _ => by have := n.size_pos; omega
  | k + 1, n, hk, hbig => by
    intro σ
    have ih := size_le_ok k
    obtain ⟨op, m, s, a, b, kids⟩ := n
    rw [Nd.size] at hk hbig ⊢
    rw [Nd.av_cs]
    have hlen := sizes_len kids
    refine a13 (by simp) ?_
    simp (disch := first | assumption | omega | (simp only [List.length_append, List.length_cons, List.length_nil]; omega)) only [go_sem, reduceCtorEq, Nat.reduceEqDiff, Nat.reduceAdd, Nat.reduceSub, Nat.reduceMul, Nat.reduceLeDiff, Int.reduceLT, Int.reduceLE, Int.reduceEq, ↓reduceIte, Int.reduceNeg, Int.reduceAdd, Int.reduceSub, Int.reduceMul, true_imp_iff, forall_const, Nat.mul_one, Int.reduceToNat, Nat.reducePow, Int.reducePow, Bool.true_and, Bool.false_and, Bool.and_false]
    refine boxC_by rfl fun c hc => ?_
    simp (disch := first | assumption | omega | (simp only [List.length_append, List.length_cons, List.length_nil]; omega)) only [go_sem, reduceCtorEq, Nat.reduceEqDiff, Nat.reduceAdd, Nat.reduceSub, Nat.reduceMul, Nat.reduceLeDiff, Int.reduceLT, Int.reduceLE, Int.reduceEq, ↓reduceIte, Int.reduceNeg, Int.reduceAdd, Int.reduceSub, Int.reduceMul, true_imp_iff, forall_const, Nat.mul_one, Int.reduceToNat, Nat.reducePow, Int.reducePow, Bool.true_and, Bool.false_and, Bool.and_false]
    refine wp_loop_by (fun (i : Nat) a1 s2 => i ≤ kids.length ∧ (a1 3 = .int .i64 (1 + (Nd.sizes (kids.take i) : Nat)) ∧ a1 7 = .sl .shr (kids.map Nd.av) ∧ a1 8 = .int .i64 kids.length ∧ a1 9 = .int .i64 i) ∧ s2 = σ) (fun i => kids.length - i) 0 (Dr.drop (Drop.set hc) ⟨Nat.zero_le _, ?_, rfl⟩) ?_
    · simp only [List.take_zero, Nd.sizes]
      simp (disch := first | assumption | omega | (simp only [List.length_append, List.length_cons, List.length_nil]; omega)) only [go_sem, reduceCtorEq, Nat.reduceEqDiff, Nat.reduceAdd, Nat.reduceSub, Nat.reduceMul, Nat.reduceLeDiff, Int.reduceLT, Int.reduceLE, Int.reduceEq, ↓reduceIte, Int.reduceNeg, Int.reduceAdd, Int.reduceSub, Int.reduceMul, true_imp_iff, forall_const, Nat.mul_one, Int.reduceToNat, Nat.reducePow, Int.reducePow, Bool.true_and, Bool.false_and, Bool.and_false]
    rintro i a1 s2 ⟨hi, hf, rfl⟩
    have hle := sizes_le kids i
    by_cases hlt : i < kids.length
    · have hlt' : (i : Int) < kids.length := by omega
      have hx : kids[i]? = some (kids[i]'hlt) := List.getElem?_eq_getElem hlt
      obtain ⟨x, hxe⟩ : ∃ x, kids[i]'hlt = x := ⟨_, rfl⟩
      rw [hxe] at hx
      have hmx := Nd.get hx
      have hst := sizes_take hx
      have hle2 := sizes_le kids (i + 1)
      have hxs := ih x (by omega) (by omega)
      obtain ⟨xo, xm, xs, xa, xb, xk⟩ := x
      rw [Nd.av_cs] at hmx hxs
      generalize (Nd.mk xo xm xs xa xb xk).size = z at *
      have e : (1 + ((Nd.sizes (kids.take i) : Nat) : Int)) + (z : Int) = 1 + ((Nd.sizes (kids.take (i + 1)) : Nat) : Int) := by omega
      generalize Nd.sizes (kids.take i) = u at *
      obtain ⟨v, hv⟩ : ∃ v, Nd.sizes (kids.take (i + 1)) = v := ⟨_, rfl⟩
      rw [hv] at e
      generalize kids.map Nd.av = L at *
      simp (disch := first | assumption | omega | (simp only [List.length_append, List.length_cons, List.length_nil]; omega)) only [go_sem, reduceCtorEq, Nat.reduceEqDiff, Nat.reduceAdd, Nat.reduceSub, Nat.reduceMul, Nat.reduceLeDiff, Int.reduceLT, Int.reduceLE, Int.reduceEq, ↓reduceIte, Int.reduceNeg, Int.reduceAdd, Int.reduceSub, Int.reduceMul, true_imp_iff, forall_const, Nat.mul_one, Int.reduceToNat, Nat.reducePow, Int.reducePow, Bool.true_and, Bool.false_and, Bool.and_false, hf, hlt', hmx]
      refine allocC_by fun d hd => ?_
      simp (disch := first | assumption | omega | (simp only [List.length_append, List.length_cons, List.length_nil]; omega)) only [go_sem, reduceCtorEq, Nat.reduceEqDiff, Nat.reduceAdd, Nat.reduceSub, Nat.reduceMul, Nat.reduceLeDiff, Int.reduceLT, Int.reduceLE, Int.reduceEq, ↓reduceIte, Int.reduceNeg, Int.reduceAdd, Int.reduceSub, Int.reduceMul, true_imp_iff, forall_const, Nat.mul_one, Int.reduceToNat, Nat.reducePow, Int.reducePow, Bool.true_and, Bool.false_and, Bool.and_false, hf, ASt.set_set]
      refine hxs.use ?_
      simp (disch := first | assumption | omega | (simp only [List.length_append, List.length_cons, List.length_nil]; omega)) only [go_sem, reduceCtorEq, Nat.reduceEqDiff, Nat.reduceAdd, Nat.reduceSub, Nat.reduceMul, Nat.reduceLeDiff, Int.reduceLT, Int.reduceLE, Int.reduceEq, ↓reduceIte, Int.reduceNeg, Int.reduceAdd, Int.reduceSub, Int.reduceMul, true_imp_iff, forall_const, Nat.mul_one, Int.reduceToNat, Nat.reducePow, Int.reducePow, Bool.true_and, Bool.false_and, Bool.and_false, hf, e]
      refine ⟨i + 1, by dsimp only; omega, Dr.drop (Drop.set hd) ⟨by omega, ?_, rfl⟩⟩
      rw [hv]
      simp (disch := first | assumption | omega | (simp only [List.length_append, List.length_cons, List.length_nil]; omega)) only [go_sem, reduceCtorEq, Nat.reduceEqDiff, Nat.reduceAdd, Nat.reduceSub, Nat.reduceMul, Nat.reduceLeDiff, Int.reduceLT, Int.reduceLE, Int.reduceEq, ↓reduceIte, Int.reduceNeg, Int.reduceAdd, Int.reduceSub, Int.reduceMul, true_imp_iff, forall_const, Nat.mul_one, Int.reduceToNat, Nat.reducePow, Int.reducePow, Bool.true_and, Bool.false_and, Bool.and_false, hf]
    · have hlt' : ¬ (i : Int) < kids.length := by omega
      rw [List.take_of_length_le (by omega)] at hf
      generalize Nd.sizes kids = u at *
      simp (disch := first | assumption | omega | (simp only [List.length_append, List.length_cons, List.length_nil]; omega)) only [go_sem, reduceCtorEq, Nat.reduceEqDiff, Nat.reduceAdd, Nat.reduceSub, Nat.reduceMul, Nat.reduceLeDiff, Int.reduceLT, Int.reduceLE, Int.reduceEq, ↓reduceIte, Int.reduceNeg, Int.reduceAdd, Int.reduceSub, Int.reduceMul, true_imp_iff, forall_const, Nat.mul_one, Int.reduceToNat, Nat.reducePow, Int.reducePow, Bool.true_and, Bool.false_and, Bool.and_false, hf, hlt']
      exact retC_by (by repeat' (first | exact Drop.refl _ | with_reducible refine Drop.off ?_ (by assumption))) (.refl _) ⟨rfl, rfl⟩
theorem nsize_ok (n : Nd) (h : n.size ≤ 1000000000) : Pure Tryz.prog 13 [n.av] (.int .i64 n.size) := size_le_ok n.size n (Nat.le_refl _) h
theorem depth_le_ok : ∀ (k : Nat) (n : Nd), n.size ≤ k → n.size ≤ 1000000000 → Pure Tryz.prog 15 [n.av] (.int .i64 n.depth)
  | 0, n, hk, _ => by have := n.size_pos; omega
  | k + 1, n, hk, hbig => by
    intro σ
    have ih := depth_le_ok k
    have hdd := n.depth_le_size
    obtain ⟨op, m, s, a, b, kids⟩ := n
    rw [Nd.size] at hk hbig hdd
    rw [Nd.depth] at hdd ⊢
    rw [Nd.av_cs]
    have hlen := sizes_len kids
    have hdl := depths_le kids
    refine a15 (by simp) ?_
    simp (disch := first | assumption | omega | (simp only [List.length_append, List.length_cons, List.length_nil]; omega)) only [go_sem, reduceCtorEq, Nat.reduceEqDiff, Nat.reduceAdd, Nat.reduceSub, Nat.reduceMul, Nat.reduceLeDiff, Int.reduceLT, Int.reduceLE, Int.reduceEq, ↓reduceIte, Int.reduceNeg, Int.reduceAdd, Int.reduceSub, Int.reduceMul, true_imp_iff, forall_const, Nat.mul_one, Int.reduceToNat, Nat.reducePow, Int.reducePow, Bool.true_and, Bool.false_and, Bool.and_false]
    refine boxC_by rfl fun c hc => ?_
    simp (disch := first | assumption | omega | (simp only [List.length_append, List.length_cons, List.length_nil]; omega)) only [go_sem, reduceCtorEq, Nat.reduceEqDiff, Nat.reduceAdd, Nat.reduceSub, Nat.reduceMul, Nat.reduceLeDiff, Int.reduceLT, Int.reduceLE, Int.reduceEq, ↓reduceIte, Int.reduceNeg, Int.reduceAdd, Int.reduceSub, Int.reduceMul, true_imp_iff, forall_const, Nat.mul_one, Int.reduceToNat, Nat.reducePow, Int.reducePow, Bool.true_and, Bool.false_and, Bool.and_false]
    refine wp_loop_by (fun (i : Nat) a1 s2 => i ≤ kids.length ∧ (a1 3 = .int .i64 (Nd.depths (kids.take i) : Nat) ∧ a1 7 = .sl .shr (kids.map Nd.av) ∧ a1 8 = .int .i64 kids.length ∧ a1 9 = .int .i64 i) ∧ s2 = σ) (fun i => kids.length - i) 0 (Dr.drop (Drop.set hc) ⟨Nat.zero_le _, ?_, rfl⟩) ?_
    · simp only [List.take_zero, Nd.depths]
      simp (disch := first | assumption | omega | (simp only [List.length_append, List.length_cons, List.length_nil]; omega)) only [go_sem, reduceCtorEq, Nat.reduceEqDiff, Nat.reduceAdd, Nat.reduceSub, Nat.reduceMul, Nat.reduceLeDiff, Int.reduceLT, Int.reduceLE, Int.reduceEq, ↓reduceIte, Int.reduceNeg, Int.reduceAdd, Int.reduceSub, Int.reduceMul, true_imp_iff, forall_const, Nat.mul_one, Int.reduceToNat, Nat.reducePow, Int.reducePow, Bool.true_and, Bool.false_and, Bool.and_false]
    rintro i a1 s2 ⟨hi, hf, rfl⟩
    have hle := depths_take_le kids i
    by_cases hlt : i < kids.length
    · have hlt' : (i : Int) < kids.length := by omega
      have hx : kids[i]? = some (kids[i]'hlt) := List.getElem?_eq_getElem hlt
      obtain ⟨x, hxe⟩ : ∃ x, kids[i]'hlt = x := ⟨_, rfl⟩
      rw [hxe] at hx
      have hmx := Nd.get hx
      have hst := depths_take hx
      have hsz := Nd.size_kid (List.mem_of_getElem? hx)
      have hxs := ih x (by omega) (by omega)
      obtain ⟨xo, xm, xs, xa, xb, xk⟩ := x
      rw [Nd.av_cs] at hmx hxs
      generalize (Nd.mk xo xm xs xa xb xk).depth = z at *
      have e : max ((Nd.depths (kids.take i) : Nat) : Int) (z : Int) = ((Nd.depths (kids.take (i + 1)) : Nat) : Int) := by omega
      generalize Nd.depths (kids.take i) = u at *
      obtain ⟨v, hv⟩ : ∃ v, Nd.depths (kids.take (i + 1)) = v := ⟨_, rfl⟩
      rw [hv] at e
      generalize kids.map Nd.av = L at *
      simp (disch := first | assumption | omega | (simp only [List.length_append, List.length_cons, List.length_nil]; omega)) only [go_sem, reduceCtorEq, Nat.reduceEqDiff, Nat.reduceAdd, Nat.reduceSub, Nat.reduceMul, Nat.reduceLeDiff, Int.reduceLT, Int.reduceLE, Int.reduceEq, ↓reduceIte, Int.reduceNeg, Int.reduceAdd, Int.reduceSub, Int.reduceMul, true_imp_iff, forall_const, Nat.mul_one, Int.reduceToNat, Nat.reducePow, Int.reducePow, Bool.true_and, Bool.false_and, Bool.and_false, hf, hlt', hmx]
      refine allocC_by fun d hd => ?_
      simp (disch := first | assumption | omega | (simp only [List.length_append, List.length_cons, List.length_nil]; omega)) only [go_sem, reduceCtorEq, Nat.reduceEqDiff, Nat.reduceAdd, Nat.reduceSub, Nat.reduceMul, Nat.reduceLeDiff, Int.reduceLT, Int.reduceLE, Int.reduceEq, ↓reduceIte, Int.reduceNeg, Int.reduceAdd, Int.reduceSub, Int.reduceMul, true_imp_iff, forall_const, Nat.mul_one, Int.reduceToNat, Nat.reducePow, Int.reducePow, Bool.true_and, Bool.false_and, Bool.and_false, hf, ASt.set_set]
      refine hxs.use ?_
      simp (disch := first | assumption | omega | (simp only [List.length_append, List.length_cons, List.length_nil]; omega)) only [go_sem, reduceCtorEq, Nat.reduceEqDiff, Nat.reduceAdd, Nat.reduceSub, Nat.reduceMul, Nat.reduceLeDiff, Int.reduceLT, Int.reduceLE, Int.reduceEq, ↓reduceIte, Int.reduceNeg, Int.reduceAdd, Int.reduceSub, Int.reduceMul, true_imp_iff, forall_const, Nat.mul_one, Int.reduceToNat, Nat.reducePow, Int.reducePow, Bool.true_and, Bool.false_and, Bool.and_false, hf, e]
      refine ⟨i + 1, by dsimp only; omega, Dr.drop (Drop.set hd) ⟨by omega, ?_, rfl⟩⟩
      rw [hv]
      simp (disch := first | assumption | omega | (simp only [List.length_append, List.length_cons, List.length_nil]; omega)) only [go_sem, reduceCtorEq, Nat.reduceEqDiff, Nat.reduceAdd, Nat.reduceSub, Nat.reduceMul, Nat.reduceLeDiff, Int.reduceLT, Int.reduceLE, Int.reduceEq, ↓reduceIte, Int.reduceNeg, Int.reduceAdd, Int.reduceSub, Int.reduceMul, true_imp_iff, forall_const, Nat.mul_one, Int.reduceToNat, Nat.reducePow, Int.reducePow, Bool.true_and, Bool.false_and, Bool.and_false, hf]
    · have hlt' : ¬ (i : Int) < kids.length := by omega
      rw [List.take_of_length_le (by omega)] at hf
      generalize Nd.depths kids = u at *
      simp (disch := first | assumption | omega | (simp only [List.length_append, List.length_cons, List.length_nil]; omega)) only [go_sem, reduceCtorEq, Nat.reduceEqDiff, Nat.reduceAdd, Nat.reduceSub, Nat.reduceMul, Nat.reduceLeDiff, Int.reduceLT, Int.reduceLE, Int.reduceEq, ↓reduceIte, Int.reduceNeg, Int.reduceAdd, Int.reduceSub, Int.reduceMul, true_imp_iff, forall_const, Nat.mul_one, Int.reduceToNat, Nat.reducePow, Int.reducePow, Bool.true_and, Bool.false_and, Bool.and_false, hf, hlt']
      exact retC_by (by repeat' (first | exact Drop.refl _ | with_reducible refine Drop.off ?_ (by assumption))) (.refl _) ⟨rfl, rfl⟩
theorem ndepth_ok (n : Nd) (h : n.size ≤ 1000000000) : Pure Tryz.prog 15 [n.av] (.int .i64 n.depth) := depth_le_ok n.size n (Nat.le_refl _) h
end Go.A
