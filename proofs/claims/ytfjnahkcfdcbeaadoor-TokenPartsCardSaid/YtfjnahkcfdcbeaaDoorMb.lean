/- TokenParts, walked. -/
import Derived.Test.YtfjnahkcfdcbeaaDoorMt
import Derived.Test.YtfjnahkcfdcbeaaDoorCodeDb
namespace Go.A
open Go.Proofs Go.Lib
set_option maxRecDepth 100000
set_option linter.unusedSimpArgs false
set_option linter.unusedVariables false

theorem parts_law {a b : List UInt8} (ha : a.length ≤ 200) (hb : b.length ≤ 200) (hq : 34 ∉ a) :
    (∃ j, lexP a = ([], j, 10)) ∨ (∃ j, lexP b = ([], j, 10)) ∨
    (∃ ts us E m, ts.length ≤ 200 ∧ us.length ≤ 200 ∧ m ≤ 200 ∧ (∀ u ∈ us, u.at' ≤ 200 ∧ u.col ≤ 200) ∧ E.at' ≤ 200 ∧ E.col ≤ 200 ∧ lexP a = (ts ++ [⟨0, [], a.length, m⟩], 0, 0) ∧ lexP b = (us ++ [E], 0, 0) ∧
      lexP (a ++ [32] ++ b) = (ts ++ (us ++ [E]).map (Tok.sh (a.length + 1) (m + 1)), 0, 0)) := by
  have h1 := rel_places _ a (Nat.le_refl _)
  have h2 := rel_places _ b (Nat.le_refl _)
  have e0 : ∀ ts : List Tok, ts.map (Tok.sh 0 0) = ts := fun ts => by
    rw [show Tok.sh 0 0 = id by funext t; rfl, List.map_id]
  have h3 : relP (a ++ [32] ++ b) = (relP a).then a.length ((relP b).sh 1 1) := by
    rw [List.append_assoc, show ([32] ++ b : List UInt8) = 32 :: b from rfl, relP_app (.inr ⟨32, b, rfl, .inl rfl⟩) _ a (Nat.le_refl _) (.inl hq)]
    exact congrArg _ (relP_bl (.inl rfl) b)
  rw [lexP_rel (s := a) (by omega), lexP_rel (s := b) (by omega), lexP_rel (s := a ++ [32] ++ b) (by simp; omega), h3]
  cases hra : relP a with
  | inl j => exact .inl ⟨_, rfl⟩
  | inr x =>
  cases hrb : relP b with
  | inl j => exact .inr (.inl ⟨_, rfl⟩)
  | inr y =>
    obtain ⟨ts, m⟩ := x
    obtain ⟨us, k⟩ := y
    rw [hra] at h1
    rw [hrb] at h2
    obtain ⟨g1, g2, g3⟩ := h1
    obtain ⟨g4, g5, g6⟩ := h2
    refine .inr (.inr ⟨ts, us, ⟨0, [], b.length, k⟩, m, by omega, by omega, by omega, fun u hu => ?_, hb, by show k ≤ 200; omega, ?_, ?_, ?_⟩)
    · have := g5 u hu; omega
    · simp [endOf, e0]
    · simp [endOf, e0]
    · have e1 : Tok.sh a.length m ∘ Tok.sh 1 1 = Tok.sh (a.length + 1) (m + 1) := by
        funext t
        simp [Tok.sh, Nat.add_comm, Nat.add_left_comm, Function.comp]
      simp only [endOf, Rel.then, Rel.sh, List.map_map, e1, e0, List.nil_append, List.map_append, List.map_cons, List.map_nil, Nat.zero_add, List.append_assoc]
      congr 4
      simp [Tok.sh]
      omega
set_option maxHeartbeats 2000000 in
theorem TokenParts_any {σ : ASt} (hU : U8 σ) (l1 l2 : List UInt8) : ACalls Tryd.prog 6 [.str l1, .str l2] σ fun v σ' => v = .bool true ∧ σ' = σ := by
  have hc1 := cut_ok l1 200
  have hc2 := cut_ok l2 200
  have ha : (l1.take 200).length ≤ 200 := by simp; omega
  have hb : (l2.take 200).length ≤ 200 := by simp; omega
  generalize l1.take 200 = s at hc1 ha
  generalize l2.take 200 = t at hc2 hb
  refine a6 (by simp) ?_
  obtain ⟨F, hF⟩ : ∃ F, F = ACode.wp Tryd.prog c6_68 := ⟨_, rfl⟩
  obtain ⟨G, hG⟩ : ∃ F, F = ACode.wp Tryd.prog c6_63 := ⟨_, rfl⟩
  have aw : ∀ {σ' : ASt}, σ' = σ → ACalls Tryd.prog 23 [] σ' fun v σ'' => v = .bool true ∧ σ'' = σ' := fun h => by subst h; exact tawake_ok hU
  simp (disch := first | assumption | omega | (simp only [List.length_append, List.length_cons, List.length_nil]; omega)) only [go_sem, reduceCtorEq, Nat.reduceEqDiff, Nat.reduceAdd, Nat.reduceSub, Nat.reduceMul, Nat.reduceLeDiff, Int.reduceLT, Int.reduceLE, Int.reduceEq, ↓reduceIte, Int.reduceNeg, Int.reduceAdd, Int.reduceSub, Int.reduceMul, true_imp_iff, forall_const, Nat.mul_one, Int.reduceToNat, Nat.reducePow, Int.reducePow, Bool.true_and, Bool.false_and, Bool.and_false, ←hF]
  refine hc1.use ?_
  simp (disch := first | assumption | omega | (simp only [List.length_append, List.length_cons, List.length_nil]; omega)) only [go_sem, reduceCtorEq, Nat.reduceEqDiff, Nat.reduceAdd, Nat.reduceSub, Nat.reduceMul, Nat.reduceLeDiff, Int.reduceLT, Int.reduceLE, Int.reduceEq, ↓reduceIte, Int.reduceNeg, Int.reduceAdd, Int.reduceSub, Int.reduceMul, true_imp_iff, forall_const, Nat.mul_one, Int.reduceToNat, Nat.reducePow, Int.reducePow, Bool.true_and, Bool.false_and, Bool.and_false, ←hF]
  refine hc2.use ?_
  simp (disch := first | assumption | omega | (simp only [List.length_append, List.length_cons, List.length_nil]; omega)) only [go_sem, reduceCtorEq, Nat.reduceEqDiff, Nat.reduceAdd, Nat.reduceSub, Nat.reduceMul, Nat.reduceLeDiff, Int.reduceLT, Int.reduceLE, Int.reduceEq, ↓reduceIte, Int.reduceNeg, Int.reduceAdd, Int.reduceSub, Int.reduceMul, true_imp_iff, forall_const, Nat.mul_one, Int.reduceToNat, Nat.reducePow, Int.reducePow, Bool.true_and, Bool.false_and, Bool.and_false, ←hF]
  refine wp_loop_on (fun (i : Nat) a σ' => i ≤ s.length ∧ 34 ∉ s.take i ∧ (a 0 = .str s ∧ a 1 = .str t ∧ a 5 = .int .i64 i) ∧ σ' = σ) (fun i => s.length - i) 0 ⟨Nat.zero_le _, by simp, ?_, rfl⟩ ?_
  · simp (disch := first | assumption | omega | (simp only [List.length_append, List.length_cons, List.length_nil]; omega)) only [go_sem, reduceCtorEq, Nat.reduceEqDiff, Nat.reduceAdd, Nat.reduceSub, Nat.reduceMul, Nat.reduceLeDiff, Int.reduceLT, Int.reduceLE, Int.reduceEq, ↓reduceIte, Int.reduceNeg, Int.reduceAdd, Int.reduceSub, Int.reduceMul, true_imp_iff, forall_const, Nat.mul_one, Int.reduceToNat, Nat.reducePow, Int.reducePow, Bool.true_and, Bool.false_and, Bool.and_false]
  rintro i a σ1 ⟨hi, hno, hf, rfl⟩
  by_cases hlt : i < s.length
  · have hidx : s[i]? = some (s[i]'hlt) := List.getElem?_eq_getElem hlt
    obtain ⟨d, hd⟩ : ∃ d, s[i]'hlt = d := ⟨_, rfl⟩
    rw [hd] at hidx
    have hlt' : (i : Int) < s.length := by omega
    by_cases h34 : (d.toNat : Int) = 34
    · simp (disch := first | assumption | omega | (simp only [List.length_append, List.length_cons, List.length_nil]; omega)) only [go_sem, reduceCtorEq, Nat.reduceEqDiff, Nat.reduceAdd, Nat.reduceSub, Nat.reduceMul, Nat.reduceLeDiff, Int.reduceLT, Int.reduceLE, Int.reduceEq, ↓reduceIte, Int.reduceNeg, Int.reduceAdd, Int.reduceSub, Int.reduceMul, true_imp_iff, forall_const, Nat.mul_one, Int.reduceToNat, Nat.reducePow, Int.reducePow, Bool.true_and, Bool.false_and, Bool.and_false, hf, hlt', hidx, h34, ←hF]
      refine (tawake_ok hU).mono ?_
      rintro v σ' ⟨rfl, rfl⟩
      simp (disch := first | assumption | omega | (simp only [List.length_append, List.length_cons, List.length_nil]; omega)) only [go_sem, reduceCtorEq, Nat.reduceEqDiff, Nat.reduceAdd, Nat.reduceSub, Nat.reduceMul, Nat.reduceLeDiff, Int.reduceLT, Int.reduceLE, Int.reduceEq, ↓reduceIte, Int.reduceNeg, Int.reduceAdd, Int.reduceSub, Int.reduceMul, true_imp_iff, forall_const, Nat.mul_one, Int.reduceToNat, Nat.reducePow, Int.reducePow, Bool.true_and, Bool.false_and, Bool.and_false]
      exact retC_by (Drop.refl _) (.refl _) ⟨rfl, rfl⟩
    · simp (disch := first | assumption | omega | (simp only [List.length_append, List.length_cons, List.length_nil]; omega)) only [go_sem, reduceCtorEq, Nat.reduceEqDiff, Nat.reduceAdd, Nat.reduceSub, Nat.reduceMul, Nat.reduceLeDiff, Int.reduceLT, Int.reduceLE, Int.reduceEq, ↓reduceIte, Int.reduceNeg, Int.reduceAdd, Int.reduceSub, Int.reduceMul, true_imp_iff, forall_const, Nat.mul_one, Int.reduceToNat, Nat.reducePow, Int.reducePow, Bool.true_and, Bool.false_and, Bool.and_false, hf, hlt', hidx, h34, ←hF]
      refine ⟨i + 1, by omega, by omega, ?_, rfl⟩
      rw [List.take_succ_eq_append_getElem hlt, hd, List.mem_append, List.mem_singleton]
      rintro (h | h)
      · exact hno h
      · subst h; exact h34 rfl
  have hlt' : ¬ (i : Int) < s.length := by omega
  rw [List.take_of_length_le (by omega)] at hno
  have law := parts_law ha hb hno
  simp (disch := first | assumption | omega | (simp only [List.length_append, List.length_cons, List.length_nil]; omega)) only [go_sem, reduceCtorEq, Nat.reduceEqDiff, Nat.reduceAdd, Nat.reduceSub, Nat.reduceMul, Nat.reduceLeDiff, Int.reduceLT, Int.reduceLE, Int.reduceEq, ↓reduceIte, Int.reduceNeg, Int.reduceAdd, Int.reduceSub, Int.reduceMul, true_imp_iff, forall_const, Nat.mul_one, Int.reduceToNat, Nat.reducePow, Int.reducePow, Bool.true_and, Bool.false_and, Bool.and_false, hf, hlt', ←hF]
  rw [hF]
  simp (disch := first | assumption | omega | (simp only [List.length_append, List.length_cons, List.length_nil]; omega)) only [go_sem, reduceCtorEq, Nat.reduceEqDiff, Nat.reduceAdd, Nat.reduceSub, Nat.reduceMul, Nat.reduceLeDiff, Int.reduceLT, Int.reduceLE, Int.reduceEq, ↓reduceIte, Int.reduceNeg, Int.reduceAdd, Int.reduceSub, Int.reduceMul, true_imp_iff, forall_const, Nat.mul_one, Int.reduceToNat, Nat.reducePow, Int.reducePow, Bool.true_and, Bool.false_and, Bool.and_false, hf, ←hG]
  refine (lex_ok hU s (by omega)).mono ?_
  rintro v σ' ⟨rfl, rfl⟩
  simp (disch := first | assumption | omega | (simp only [List.length_append, List.length_cons, List.length_nil]; omega)) only [go_sem, reduceCtorEq, Nat.reduceEqDiff, Nat.reduceAdd, Nat.reduceSub, Nat.reduceMul, Nat.reduceLeDiff, Int.reduceLT, Int.reduceLE, Int.reduceEq, ↓reduceIte, Int.reduceNeg, Int.reduceAdd, Int.reduceSub, Int.reduceMul, true_imp_iff, forall_const, Nat.mul_one, Int.reduceToNat, Nat.reducePow, Int.reducePow, Bool.true_and, Bool.false_and, Bool.and_false, hf, ←hG]
  refine (lex_ok hU t (by omega)).mono ?_
  rintro v σ' ⟨rfl, rfl⟩
  have erra : ∀ j, lexP s = ([], j, 10) → (lexP s).2.2 = 10 ∧ (lexP s).1 = [] := fun j h => by rw [h]; exact ⟨rfl, rfl⟩
  rcases law with ⟨j, h1⟩ | ⟨j, h1⟩ | ⟨ts, us, E, m, b1, b2, b3, b4, b5, b6, h1, h2, h3⟩
  · rw [h1]
    simp (disch := first | assumption | omega | (simp only [List.length_append, List.length_cons, List.length_nil]; omega)) only [go_sem, reduceCtorEq, Nat.reduceEqDiff, Nat.reduceAdd, Nat.reduceSub, Nat.reduceMul, Nat.reduceLeDiff, Int.reduceLT, Int.reduceLE, Int.reduceEq, ↓reduceIte, Int.reduceNeg, Int.reduceAdd, Int.reduceSub, Int.reduceMul, true_imp_iff, forall_const, Nat.mul_one, Int.reduceToNat, Nat.reducePow, Int.reducePow, Bool.true_and, Bool.false_and, Bool.and_false, hf, ←hG]
    refine (tawake_ok hU).mono ?_
    rintro v σ' ⟨rfl, rfl⟩
    simp (disch := first | assumption | omega | (simp only [List.length_append, List.length_cons, List.length_nil]; omega)) only [go_sem, reduceCtorEq, Nat.reduceEqDiff, Nat.reduceAdd, Nat.reduceSub, Nat.reduceMul, Nat.reduceLeDiff, Int.reduceLT, Int.reduceLE, Int.reduceEq, ↓reduceIte, Int.reduceNeg, Int.reduceAdd, Int.reduceSub, Int.reduceMul, true_imp_iff, forall_const, Nat.mul_one, Int.reduceToNat, Nat.reducePow, Int.reducePow, Bool.true_and, Bool.false_and, Bool.and_false]
    exact retC_by (Drop.refl _) (.refl _) ⟨rfl, rfl⟩
  · rw [h1]
    by_cases he : (lexP s).2.2 = 0
    · simp (disch := first | assumption | omega | (simp only [List.length_append, List.length_cons, List.length_nil]; omega)) only [go_sem, reduceCtorEq, Nat.reduceEqDiff, Nat.reduceAdd, Nat.reduceSub, Nat.reduceMul, Nat.reduceLeDiff, Int.reduceLT, Int.reduceLE, Int.reduceEq, ↓reduceIte, Int.reduceNeg, Int.reduceAdd, Int.reduceSub, Int.reduceMul, true_imp_iff, forall_const, Nat.mul_one, Int.reduceToNat, Nat.reducePow, Int.reducePow, Bool.true_and, Bool.false_and, Bool.and_false, hf, he, ←hG]
      refine (tawake_ok hU).mono ?_
      rintro v σ' ⟨rfl, rfl⟩
      simp (disch := first | assumption | omega | (simp only [List.length_append, List.length_cons, List.length_nil]; omega)) only [go_sem, reduceCtorEq, Nat.reduceEqDiff, Nat.reduceAdd, Nat.reduceSub, Nat.reduceMul, Nat.reduceLeDiff, Int.reduceLT, Int.reduceLE, Int.reduceEq, ↓reduceIte, Int.reduceNeg, Int.reduceAdd, Int.reduceSub, Int.reduceMul, true_imp_iff, forall_const, Nat.mul_one, Int.reduceToNat, Nat.reducePow, Int.reducePow, Bool.true_and, Bool.false_and, Bool.and_false]
      exact retC_by (Drop.refl _) (.refl _) ⟨rfl, rfl⟩
    · simp (disch := first | assumption | omega | (simp only [List.length_append, List.length_cons, List.length_nil]; omega)) only [go_sem, reduceCtorEq, Nat.reduceEqDiff, Nat.reduceAdd, Nat.reduceSub, Nat.reduceMul, Nat.reduceLeDiff, Int.reduceLT, Int.reduceLE, Int.reduceEq, ↓reduceIte, Int.reduceNeg, Int.reduceAdd, Int.reduceSub, Int.reduceMul, true_imp_iff, forall_const, Nat.mul_one, Int.reduceToNat, Nat.reducePow, Int.reducePow, Bool.true_and, Bool.false_and, Bool.and_false, hf, he, ←hG]
      refine (tawake_ok hU).mono ?_
      rintro v σ' ⟨rfl, rfl⟩
      simp (disch := first | assumption | omega | (simp only [List.length_append, List.length_cons, List.length_nil]; omega)) only [go_sem, reduceCtorEq, Nat.reduceEqDiff, Nat.reduceAdd, Nat.reduceSub, Nat.reduceMul, Nat.reduceLeDiff, Int.reduceLT, Int.reduceLE, Int.reduceEq, ↓reduceIte, Int.reduceNeg, Int.reduceAdd, Int.reduceSub, Int.reduceMul, true_imp_iff, forall_const, Nat.mul_one, Int.reduceToNat, Nat.reducePow, Int.reducePow, Bool.true_and, Bool.false_and, Bool.and_false]
      exact retC_by (Drop.refl _) (.refl _) ⟨rfl, rfl⟩
  have f1 : s.length + ([32] : List UInt8).length ≤ 9223372036854775807 := by simp; omega
  have f2 : (s ++ [32]).length + t.length ≤ 9223372036854775807 := by simp; omega
  obtain ⟨L, hL⟩ : ∃ L, ts ++ [(⟨0, [], s.length, m⟩ : Tok)] = L := ⟨_, rfl⟩
  obtain ⟨M, hM⟩ : ∃ M, us ++ [E] = M := ⟨_, rfl⟩
  obtain ⟨N, hN⟩ : ∃ N, ts ++ M.map (Tok.sh (s.length + 1) (m + 1)) = N := ⟨_, rfl⟩
  have lL : (L.map tokAV).length = ts.length + 1 := by rw [← hL]; simp
  have lM : (M.map tokAV).length = us.length + 1 := by rw [← hM]; simp
  have lN : (N.map tokAV).length = ts.length + us.length + 1 := by rw [← hN, ← hM]; simp; omega
  rw [h1, h2, hL, hM]
  rw [hM, hN] at h3
  simp (disch := first | assumption | omega | (simp only [List.length_append, List.length_cons, List.length_nil]; omega)) only [go_sem, reduceCtorEq, Nat.reduceEqDiff, Nat.reduceAdd, Nat.reduceSub, Nat.reduceMul, Nat.reduceLeDiff, Int.reduceLT, Int.reduceLE, Int.reduceEq, ↓reduceIte, Int.reduceNeg, Int.reduceAdd, Int.reduceSub, Int.reduceMul, true_imp_iff, forall_const, Nat.mul_one, Int.reduceToNat, Nat.reducePow, Int.reducePow, Bool.true_and, Bool.false_and, Bool.and_false, hf, lL, lM, f1, f2, ←hG]
  refine (lex_ok hU (s ++ [32] ++ t) (by simp; omega)).mono ?_
  rintro v σ' ⟨rfl, rfl⟩
  rw [h3]
  simp (disch := first | assumption | omega | (simp only [List.length_append, List.length_cons, List.length_nil]; omega)) only [go_sem, reduceCtorEq, Nat.reduceEqDiff, Nat.reduceAdd, Nat.reduceSub, Nat.reduceMul, Nat.reduceLeDiff, Int.reduceLT, Int.reduceLE, Int.reduceEq, ↓reduceIte, Int.reduceNeg, Int.reduceAdd, Int.reduceSub, Int.reduceMul, true_imp_iff, forall_const, Nat.mul_one, Int.reduceToNat, Nat.reducePow, Int.reducePow, Bool.true_and, Bool.false_and, Bool.and_false, hf, lL, lM, lN, ←hG]
  have hj1 : ∀ i, i < ts.length → ∃ k t x c, N[i]? = some ⟨k, t, x, c⟩ ∧ L[i]? = some ⟨k, t, x, c⟩ := by
    intro i hi
    refine ⟨(ts[i]'hi).kind, (ts[i]'hi).text, (ts[i]'hi).at', (ts[i]'hi).col, ?_, ?_⟩
    · rw [← hN, List.getElem?_append_left hi, List.getElem?_eq_getElem hi]
    · rw [← hL, List.getElem?_append_left hi, List.getElem?_eq_getElem hi]
  have hj2 : ∀ j, j < us.length + 1 → ∃ k t x c, M[j]? = some ⟨k, t, x, c⟩ ∧ N[ts.length + j]? = some ⟨k, t, x + (s.length + 1), c + (m + 1)⟩ ∧ x ≤ 200 ∧ c ≤ 200 := by
    intro j hj
    have hMl : M.length = us.length + 1 := by rw [← hM]; simp
    have hg : M[j]? = some (M[j]'(by omega)) := List.getElem?_eq_getElem (by omega)
    obtain ⟨u, hu⟩ : ∃ u, M[j]'(by omega) = u := ⟨_, rfl⟩
    rw [hu] at hg
    have hb2 : u.at' ≤ 200 ∧ u.col ≤ 200 := by
      have hm := List.mem_of_getElem? hg
      rw [← hM, List.mem_append, List.mem_singleton] at hm
      rcases hm with hm | rfl
      · exact b4 u hm
      · exact ⟨b5, b6⟩
    refine ⟨u.kind, u.text, u.at', u.col, hg, ?_, hb2.1, hb2.2⟩
    rw [← hN, List.getElem?_append_right (by omega), Nat.add_sub_cancel_left, List.getElem?_map, hg]
    rfl
  have hend : L[ts.length]? = some ⟨0, [], s.length, m⟩ := by rw [← hL, List.getElem?_append_right (by omega), Nat.sub_self]; rfl
  have iend := tok_at hend
  clear hL hM hN h1 h2 h3 hend
  obtain ⟨p, hp⟩ : ∃ p, ts.length = p := ⟨_, rfl⟩
  obtain ⟨q, hq⟩ : ∃ q, us.length = q := ⟨_, rfl⟩
  rw [hp] at lL lN hj1 hj2 iend b1
  rw [hq] at lM lN hj2 b2
  have ep : (p : Int) + 1 - 1 = p := by omega
  rw [hG]
  simp (disch := first | assumption | omega | (simp only [List.length_append, List.length_cons, List.length_nil]; omega)) only [go_sem, reduceCtorEq, Nat.reduceEqDiff, Nat.reduceAdd, Nat.reduceSub, Nat.reduceMul, Nat.reduceLeDiff, Int.reduceLT, Int.reduceLE, Int.reduceEq, ↓reduceIte, Int.reduceNeg, Int.reduceAdd, Int.reduceSub, Int.reduceMul, true_imp_iff, forall_const, Nat.mul_one, Int.reduceToNat, Nat.reducePow, Int.reducePow, Bool.true_and, Bool.false_and, Bool.and_false, hf, lN]
  refine wp_loop_by (fun (i : Nat) a σ'' => i ≤ p + q + 1 ∧ (a 0 = .str s ∧ a 6 = .sl .shr (L.map tokAV) ∧ a 9 = .sl .shr (M.map tokAV) ∧ a 84 = .sl .shr (N.map tokAV) ∧ a 85 = .int .i64 ((p : Int) + q + 1) ∧ a 86 = .int .i64 i) ∧ σ'' = σ') (fun i => p + q + 1 - i) 0 (Dr.now ⟨Nat.zero_le _, ?_, rfl⟩) ?_
  · simp (disch := first | assumption | omega | (simp only [List.length_append, List.length_cons, List.length_nil]; omega)) only [go_sem, reduceCtorEq, Nat.reduceEqDiff, Nat.reduceAdd, Nat.reduceSub, Nat.reduceMul, Nat.reduceLeDiff, Int.reduceLT, Int.reduceLE, Int.reduceEq, ↓reduceIte, Int.reduceNeg, Int.reduceAdd, Int.reduceSub, Int.reduceMul, true_imp_iff, forall_const, Nat.mul_one, Int.reduceToNat, Nat.reducePow, Int.reducePow, Bool.true_and, Bool.false_and, Bool.and_false, hf]
  clear hf
  rintro i a σ2 ⟨hi, hf, rfl⟩
  by_cases hlt : i < p + q + 1
  · have hlt' : (i : Int) < p + q + 1 := by omega
    by_cases hip : i < p
    · obtain ⟨k, tx, x, c, g1, g2⟩ := hj1 i hip
      have i1 := tok_at g1
      have i2 := tok_at g2
      have hip' : (i : Int) < p := by omega
      simp (disch := first | assumption | omega | (simp only [List.length_append, List.length_cons, List.length_nil]; omega)) only [go_sem, reduceCtorEq, Nat.reduceEqDiff, Nat.reduceAdd, Nat.reduceSub, Nat.reduceMul, Nat.reduceLeDiff, Int.reduceLT, Int.reduceLE, Int.reduceEq, ↓reduceIte, Int.reduceNeg, Int.reduceAdd, Int.reduceSub, Int.reduceMul, true_imp_iff, forall_const, Nat.mul_one, Int.reduceToNat, Nat.reducePow, Int.reducePow, Bool.true_and, Bool.false_and, Bool.and_false, hf, hlt', i1]
      refine allocC_by fun b1 hb1 => ?_
      simp (disch := first | assumption | omega | (simp only [List.length_append, List.length_cons, List.length_nil]; omega)) only [go_sem, reduceCtorEq, Nat.reduceEqDiff, Nat.reduceAdd, Nat.reduceSub, Nat.reduceMul, Nat.reduceLeDiff, Int.reduceLT, Int.reduceLE, Int.reduceEq, ↓reduceIte, Int.reduceNeg, Int.reduceAdd, Int.reduceSub, Int.reduceMul, true_imp_iff, forall_const, Nat.mul_one, Int.reduceToNat, Nat.reducePow, Int.reducePow, Bool.true_and, Bool.false_and, Bool.and_false, hf, hlt', i1]
      refine allocC_by fun b2 hb2 => ?_
      repeat (with_reducible replace hb2 := set_none hb2; obtain ⟨_, _, hb2⟩ := hb2)
      simp (disch := first | assumption | omega | (simp only [List.length_append, List.length_cons, List.length_nil]; omega)) only [go_sem, reduceCtorEq, Nat.reduceEqDiff, Nat.reduceAdd, Nat.reduceSub, Nat.reduceMul, Nat.reduceLeDiff, Int.reduceLT, Int.reduceLE, Int.reduceEq, ↓reduceIte, Int.reduceNeg, Int.reduceAdd, Int.reduceSub, Int.reduceMul, true_imp_iff, forall_const, Nat.mul_one, Int.reduceToNat, Nat.reducePow, Int.reducePow, Bool.true_and, Bool.false_and, Bool.and_false, hf, hlt', i1, i2, lL, ep, hip']
      refine ⟨i + 1, by dsimp only; omega, Dr.drop (by repeat' (first | exact Drop.refl _ | with_reducible refine Drop.off ?_ (by assumption))) ⟨by omega, ?_, rfl⟩⟩
      simp (disch := first | assumption | omega | (simp only [List.length_append, List.length_cons, List.length_nil]; omega)) only [go_sem, reduceCtorEq, Nat.reduceEqDiff, Nat.reduceAdd, Nat.reduceSub, Nat.reduceMul, Nat.reduceLeDiff, Int.reduceLT, Int.reduceLE, Int.reduceEq, ↓reduceIte, Int.reduceNeg, Int.reduceAdd, Int.reduceSub, Int.reduceMul, true_imp_iff, forall_const, Nat.mul_one, Int.reduceToNat, Nat.reducePow, Int.reducePow, Bool.true_and, Bool.false_and, Bool.and_false, hf]
    · obtain ⟨j, rfl⟩ : ∃ j, i = p + j := ⟨i - p, by omega⟩
      obtain ⟨k, tx, x, c, g1, g2, x1, c1⟩ := hj2 j (by omega)
      have i1 := tok_at g2
      have i2 := tok_at g1
      have hip' : ¬ ((p : Int) + j) < p := by omega
      have e1 : (p : Int) + j - (p + 1) + 1 = j := by omega
      have e2 : ((p : Int) + j).toNat = p + j := by omega
      simp (disch := first | assumption | omega | (simp only [List.length_append, List.length_cons, List.length_nil]; omega)) only [go_sem, reduceCtorEq, Nat.reduceEqDiff, Nat.reduceAdd, Nat.reduceSub, Nat.reduceMul, Nat.reduceLeDiff, Int.reduceLT, Int.reduceLE, Int.reduceEq, ↓reduceIte, Int.reduceNeg, Int.reduceAdd, Int.reduceSub, Int.reduceMul, true_imp_iff, forall_const, Nat.mul_one, Int.reduceToNat, Nat.reducePow, Int.reducePow, Bool.true_and, Bool.false_and, Bool.and_false, hf, hlt', i1, e2]
      refine allocC_by fun b1 hb1 => ?_
      simp (disch := first | assumption | omega | (simp only [List.length_append, List.length_cons, List.length_nil]; omega)) only [go_sem, reduceCtorEq, Nat.reduceEqDiff, Nat.reduceAdd, Nat.reduceSub, Nat.reduceMul, Nat.reduceLeDiff, Int.reduceLT, Int.reduceLE, Int.reduceEq, ↓reduceIte, Int.reduceNeg, Int.reduceAdd, Int.reduceSub, Int.reduceMul, true_imp_iff, forall_const, Nat.mul_one, Int.reduceToNat, Nat.reducePow, Int.reducePow, Bool.true_and, Bool.false_and, Bool.and_false, hf, hlt', i1, e2]
      refine allocC_by fun b2 hb2 => ?_
      repeat (with_reducible replace hb2 := set_none hb2; obtain ⟨_, _, hb2⟩ := hb2)
      simp (disch := first | assumption | omega | (simp only [List.length_append, List.length_cons, List.length_nil]; omega)) only [go_sem, reduceCtorEq, Nat.reduceEqDiff, Nat.reduceAdd, Nat.reduceSub, Nat.reduceMul, Nat.reduceLeDiff, Int.reduceLT, Int.reduceLE, Int.reduceEq, ↓reduceIte, Int.reduceNeg, Int.reduceAdd, Int.reduceSub, Int.reduceMul, true_imp_iff, forall_const, Nat.mul_one, Int.reduceToNat, Nat.reducePow, Int.reducePow, Bool.true_and, Bool.false_and, Bool.and_false, hf, hlt', i1, i2, lL, ep, hip', e1, e2, iend, ASt.set_set]
      refine ⟨p + j + 1, by dsimp only; omega, Dr.drop (by repeat' (first | exact Drop.refl _ | with_reducible refine Drop.off ?_ (by assumption))) ⟨by omega, ?_, rfl⟩⟩
      simp (disch := first | assumption | omega | (simp only [List.length_append, List.length_cons, List.length_nil]; omega)) only [go_sem, reduceCtorEq, Nat.reduceEqDiff, Nat.reduceAdd, Nat.reduceSub, Nat.reduceMul, Nat.reduceLeDiff, Int.reduceLT, Int.reduceLE, Int.reduceEq, ↓reduceIte, Int.reduceNeg, Int.reduceAdd, Int.reduceSub, Int.reduceMul, true_imp_iff, forall_const, Nat.mul_one, Int.reduceToNat, Nat.reducePow, Int.reducePow, Bool.true_and, Bool.false_and, Bool.and_false, hf]
  · have hlt' : ¬ (i : Int) < p + q + 1 := by omega
    simp (disch := first | assumption | omega | (simp only [List.length_append, List.length_cons, List.length_nil]; omega)) only [go_sem, reduceCtorEq, Nat.reduceEqDiff, Nat.reduceAdd, Nat.reduceSub, Nat.reduceMul, Nat.reduceLeDiff, Int.reduceLT, Int.reduceLE, Int.reduceEq, ↓reduceIte, Int.reduceNeg, Int.reduceAdd, Int.reduceSub, Int.reduceMul, true_imp_iff, forall_const, Nat.mul_one, Int.reduceToNat, Nat.reducePow, Int.reducePow, Bool.true_and, Bool.false_and, Bool.and_false, hf, hlt']
    refine (tawake_ok hU).mono ?_
    rintro v σ' ⟨rfl, rfl⟩
    simp (disch := first | assumption | omega | (simp only [List.length_append, List.length_cons, List.length_nil]; omega)) only [go_sem, reduceCtorEq, Nat.reduceEqDiff, Nat.reduceAdd, Nat.reduceSub, Nat.reduceMul, Nat.reduceLeDiff, Int.reduceLT, Int.reduceLE, Int.reduceEq, ↓reduceIte, Int.reduceNeg, Int.reduceAdd, Int.reduceSub, Int.reduceMul, true_imp_iff, forall_const, Nat.mul_one, Int.reduceToNat, Nat.reducePow, Int.reducePow, Bool.true_and, Bool.false_and, Bool.and_false]
    exact retC_by (Drop.refl _) (.refl _) ⟨rfl, rfl⟩
end Go.A
