/- Signs, and TokenPlaces, walked. -/
import Derived.Test.YtfjnahkcfdcbeaaDoorMt
import Derived.Test.YtfjnahkcfdcbeaaDoorYe
import Derived.Test.YtfjnahkcfdcbeaaDoorCodeDc
namespace Go.A
open Go.Proofs Go.Lib
set_option maxRecDepth 100000
set_option linter.unusedSimpArgs false
set_option linter.unusedVariables false

theorem signsP_eq (s : List UInt8) : signsP s = match sgP s with | some n => ((n : Int), true) | none => (0, false) := rfl
set_option maxHeartbeats 1000000 in
theorem tsigns_ok {σ : ASt} (hU : U8 σ) (s : List UInt8) (hs : s.length ≤ 100000) : ACalls Tryd.prog 25 [.str s] σ fun v σ' => v = .tuple [.int .i64 (signsP s).1, .bool (signsP s).2] ∧ σ' = σ := by
  obtain ⟨R, hR⟩ : ∃ R, sgP s = R := ⟨_, rfl⟩
  rw [signsP_eq, hR]
  refine a25 (by simp) ?_
  simp (disch := first | assumption | omega | (simp only [List.length_append, List.length_cons, List.length_nil]; omega)) only [go_sem, reduceCtorEq, Nat.reduceEqDiff, Nat.reduceAdd, Nat.reduceSub, Nat.reduceMul, Nat.reduceLeDiff, Int.reduceLT, Int.reduceLE, Int.reduceEq, ↓reduceIte, Int.reduceNeg, Int.reduceAdd, Int.reduceSub, Int.reduceMul, true_imp_iff, forall_const, Nat.mul_one, Int.reduceToNat, Nat.reducePow, Int.reducePow, Bool.true_and, Bool.false_and, Bool.and_false]
  refine rngC_by fun it hit => ?_
  simp (disch := first | assumption | omega | (simp only [List.length_append, List.length_cons, List.length_nil]; omega)) only [go_sem, reduceCtorEq, Nat.reduceEqDiff, Nat.reduceAdd, Nat.reduceSub, Nat.reduceMul, Nat.reduceLeDiff, Int.reduceLT, Int.reduceLE, Int.reduceEq, ↓reduceIte, Int.reduceNeg, Int.reduceAdd, Int.reduceSub, Int.reduceMul, true_imp_iff, forall_const, Nat.mul_one, Int.reduceToNat, Nat.reducePow, Int.reducePow, Bool.true_and, Bool.false_and, Bool.and_false]
  refine wp_loop_on (fun (i : Nat × Nat) a σ' => i.1 ≤ s.length ∧ i.2 ≤ i.1 ∧ (sgP (s.drop i.1)).map (· + i.2) = R ∧ (a 0 = .str s ∧ a 4 = .int .i64 i.2 ∧ a 10 = .ptr it 0) ∧ σ' = σ.set it (some (.iter s i.1))) (fun i => s.length - i.1) (0, 0) ⟨Nat.zero_le _, Nat.le_refl _, ?_, ?_, rfl⟩ ?_
  · rw [List.drop_zero, hR]
    cases R <;> simp
  · simp (disch := first | assumption | omega | (simp only [List.length_append, List.length_cons, List.length_nil]; omega)) only [go_sem, reduceCtorEq, Nat.reduceEqDiff, Nat.reduceAdd, Nat.reduceSub, Nat.reduceMul, Nat.reduceLeDiff, Int.reduceLT, Int.reduceLE, Int.reduceEq, ↓reduceIte, Int.reduceNeg, Int.reduceAdd, Int.reduceSub, Int.reduceMul, true_imp_iff, forall_const, Nat.mul_one, Int.reduceToNat, Nat.reducePow, Int.reducePow, Bool.true_and, Bool.false_and, Bool.and_false]
  rintro ⟨q, n⟩ a σ1 ⟨hq, hnq, hsg, hf, rfl⟩
  dsimp only at hq hnq hsg hf ⊢
  by_cases hlt : q < s.length
  · have hne : s.drop q ≠ [] := by
      intro h
      have := congrArg List.length h
      simp at this
      omega
    obtain ⟨⟨r, w⟩, hD⟩ : ∃ D, decodeL (s.drop q) = D := ⟨_, rfl⟩
    have hD2 : Utf8.decode ⟨⟨s⟩⟩ q = (r, w) := by rw [← hD]; exact (decodeL_drop ⟨⟨s⟩⟩ q).symm
    have hwle := decodeL_le (s.drop q) hne
    have hbd := dec_bd (s.drop q)
    rw [sgP_step hne] at hsg
    rw [hD] at hwle hbd hsg
    dsimp only at hwle hbd hsg
    rw [List.length_drop] at hwle
    have hset : (σ.set it (some (.iter s q))).set it (some (.iter s (q + w))) = σ.set it (some (.iter s (q + w))) := ASt.set_set _ _ _ _
    have hdec := dec_ok (hU.set (r := some (.iter s (q + w))) hit) hne
    rw [hD] at hdec
    simp (disch := first | assumption | omega | (simp only [List.length_append, List.length_cons, List.length_nil]; omega)) only [go_sem, reduceCtorEq, Nat.reduceEqDiff, Nat.reduceAdd, Nat.reduceSub, Nat.reduceMul, Nat.reduceLeDiff, Int.reduceLT, Int.reduceLE, Int.reduceEq, ↓reduceIte, Int.reduceNeg, Int.reduceAdd, Int.reduceSub, Int.reduceMul, true_imp_iff, forall_const, Nat.mul_one, Int.reduceToNat, Nat.reducePow, Int.reducePow, Bool.true_and, Bool.false_and, Bool.and_false, hf]
    refine nxt_more hlt ?_
    rw [hD2, hset]
    by_cases h65 : (r : Int) = 65533
    · simp (disch := first | assumption | omega | (simp only [List.length_append, List.length_cons, List.length_nil]; omega)) only [go_sem, reduceCtorEq, Nat.reduceEqDiff, Nat.reduceAdd, Nat.reduceSub, Nat.reduceMul, Nat.reduceLeDiff, Int.reduceLT, Int.reduceLE, Int.reduceEq, ↓reduceIte, Int.reduceNeg, Int.reduceAdd, Int.reduceSub, Int.reduceMul, true_imp_iff, forall_const, Nat.mul_one, Int.reduceToNat, Nat.reducePow, Int.reducePow, Bool.true_and, Bool.false_and, Bool.and_false, hf, h65, List.take_length]
      refine hdec.mono ?_
      rintro v σ' ⟨rfl, rfl⟩
      by_cases hw1 : (w : Int) = 1
      · rw [if_pos (by rw [Prod.mk.injEq]; omega)] at hsg
        simp only [Option.map_none] at hsg
        subst hsg
        simp (disch := first | assumption | omega | (simp only [List.length_append, List.length_cons, List.length_nil]; omega)) only [go_sem, reduceCtorEq, Nat.reduceEqDiff, Nat.reduceAdd, Nat.reduceSub, Nat.reduceMul, Nat.reduceLeDiff, Int.reduceLT, Int.reduceLE, Int.reduceEq, ↓reduceIte, Int.reduceNeg, Int.reduceAdd, Int.reduceSub, Int.reduceMul, true_imp_iff, forall_const, Nat.mul_one, Int.reduceToNat, Nat.reducePow, Int.reducePow, Bool.true_and, Bool.false_and, Bool.and_false, hf, hw1]
        exact retC_by (Drop.set hit) (.refl _) ⟨rfl, rfl⟩
      · rw [if_neg (by rw [Prod.mk.injEq]; omega), List.drop_drop] at hsg
        simp (disch := first | assumption | omega | (simp only [List.length_append, List.length_cons, List.length_nil]; omega)) only [go_sem, reduceCtorEq, Nat.reduceEqDiff, Nat.reduceAdd, Nat.reduceSub, Nat.reduceMul, Nat.reduceLeDiff, Int.reduceLT, Int.reduceLE, Int.reduceEq, ↓reduceIte, Int.reduceNeg, Int.reduceAdd, Int.reduceSub, Int.reduceMul, true_imp_iff, forall_const, Nat.mul_one, Int.reduceToNat, Nat.reducePow, Int.reducePow, Bool.true_and, Bool.false_and, Bool.and_false, hf, hw1]
        refine ⟨(q + w, n + 1), by dsimp only; omega, by dsimp only; omega, by dsimp only; omega, ?_, ?_, rfl⟩
        · rw [← hsg]
          cases sgP (s.drop (q + w)) <;> simp [Nat.add_comm, Nat.add_left_comm]
        · simp (disch := first | assumption | omega | (simp only [List.length_append, List.length_cons, List.length_nil]; omega)) only [go_sem, reduceCtorEq, Nat.reduceEqDiff, Nat.reduceAdd, Nat.reduceSub, Nat.reduceMul, Nat.reduceLeDiff, Int.reduceLT, Int.reduceLE, Int.reduceEq, ↓reduceIte, Int.reduceNeg, Int.reduceAdd, Int.reduceSub, Int.reduceMul, true_imp_iff, forall_const, Nat.mul_one, Int.reduceToNat, Nat.reducePow, Int.reducePow, Bool.true_and, Bool.false_and, Bool.and_false, hf]
    · rw [if_neg (by rw [Prod.mk.injEq]; omega), List.drop_drop] at hsg
      simp (disch := first | assumption | omega | (simp only [List.length_append, List.length_cons, List.length_nil]; omega)) only [go_sem, reduceCtorEq, Nat.reduceEqDiff, Nat.reduceAdd, Nat.reduceSub, Nat.reduceMul, Nat.reduceLeDiff, Int.reduceLT, Int.reduceLE, Int.reduceEq, ↓reduceIte, Int.reduceNeg, Int.reduceAdd, Int.reduceSub, Int.reduceMul, true_imp_iff, forall_const, Nat.mul_one, Int.reduceToNat, Nat.reducePow, Int.reducePow, Bool.true_and, Bool.false_and, Bool.and_false, hf, h65]
      refine ⟨(q + w, n + 1), by dsimp only; omega, by dsimp only; omega, by dsimp only; omega, ?_, ?_, rfl⟩
      · rw [← hsg]
        cases sgP (s.drop (q + w)) <;> simp [Nat.add_comm, Nat.add_left_comm]
      · simp (disch := first | assumption | omega | (simp only [List.length_append, List.length_cons, List.length_nil]; omega)) only [go_sem, reduceCtorEq, Nat.reduceEqDiff, Nat.reduceAdd, Nat.reduceSub, Nat.reduceMul, Nat.reduceLeDiff, Int.reduceLT, Int.reduceLE, Int.reduceEq, ↓reduceIte, Int.reduceNeg, Int.reduceAdd, Int.reduceSub, Int.reduceMul, true_imp_iff, forall_const, Nat.mul_one, Int.reduceToNat, Nat.reducePow, Int.reducePow, Bool.true_and, Bool.false_and, Bool.and_false, hf]
  · rw [List.drop_eq_nil_of_le (by omega), sgP_nil] at hsg
    simp only [Option.map_some, Nat.zero_add] at hsg
    subst hsg
    simp (disch := first | assumption | omega | (simp only [List.length_append, List.length_cons, List.length_nil]; omega)) only [go_sem, reduceCtorEq, Nat.reduceEqDiff, Nat.reduceAdd, Nat.reduceSub, Nat.reduceMul, Nat.reduceLeDiff, Int.reduceLT, Int.reduceLE, Int.reduceEq, ↓reduceIte, Int.reduceNeg, Int.reduceAdd, Int.reduceSub, Int.reduceMul, true_imp_iff, forall_const, Nat.mul_one, Int.reduceToNat, Nat.reducePow, Int.reducePow, Bool.true_and, Bool.false_and, Bool.and_false, hf]
    refine nxt_over (by omega) ?_
    simp (disch := first | assumption | omega | (simp only [List.length_append, List.length_cons, List.length_nil]; omega)) only [go_sem, reduceCtorEq, Nat.reduceEqDiff, Nat.reduceAdd, Nat.reduceSub, Nat.reduceMul, Nat.reduceLeDiff, Int.reduceLT, Int.reduceLE, Int.reduceEq, ↓reduceIte, Int.reduceNeg, Int.reduceAdd, Int.reduceSub, Int.reduceMul, true_imp_iff, forall_const, Nat.mul_one, Int.reduceToNat, Nat.reducePow, Int.reducePow, Bool.true_and, Bool.false_and, Bool.and_false, hf]
    exact retC_by (Drop.set hit) (.refl _) ⟨rfl, rfl⟩

theorem places_law {s : List UInt8} (hs : s.length ≤ 400) :
    (∃ j, j < s.length ∧ lexP s = ([], j, 10)) ∨
    (∃ ts m, ts.length ≤ 400 ∧ m ≤ 400 ∧ m ≤ s.length ∧ sgP s = some m ∧ (∀ t ∈ ts, t.col ≤ t.at' ∧ t.at' ≤ 400) ∧ ts.Pairwise (fun t u => t.at' < u.at' ∧ t.col < u.col) ∧ lexP s = (ts ++ [⟨0, [], s.length, m⟩], 0, 0)) := by
  have h1 := rel_places _ s (Nat.le_refl _)
  rw [lexP_rel (by omega)]
  cases hr : relP s with
  | inl j =>
    rw [hr] at h1
    have h1 : j < s.length := h1
    exact .inl ⟨j, h1, by simp [endOf]⟩
  | inr x =>
    obtain ⟨ts, m⟩ := x
    have h2 := rel_signs _ s (Nat.le_refl _) ts m hr
    rw [hr] at h1
    obtain ⟨g1, g2, g3⟩ := h1
    have e0 : ts.map (Tok.sh 0 0) = ts := by
      rw [show Tok.sh 0 0 = id by funext t; rfl, List.map_id]
    refine .inr ⟨ts, m, by omega, by omega, g1.2, h2, fun t ht => ?_, g3, ?_⟩
    · have := g2 t ht; omega
    · simp [endOf, e0]
set_option maxHeartbeats 2000000 in
theorem TokenPlaces_any {σ : ASt} (hU : U8 σ) (l : List UInt8) : ACalls Tryd.prog 7 [.str l] σ fun v σ' => v = .bool true ∧ σ' = σ := by
  have hc := cut_ok l 400
  have hl : (l.take 400).length ≤ 400 := by simp; omega
  generalize l.take 400 = s at hc hl
  have law := places_law hl
  refine a7 (by simp) ?_
  obtain ⟨F, hF⟩ : ∃ F, F = ACode.wp Tryd.prog c7_30 := ⟨_, rfl⟩
  simp (disch := first | assumption | omega | (simp only [List.length_append, List.length_cons, List.length_nil]; omega)) only [go_sem, reduceCtorEq, Nat.reduceEqDiff, Nat.reduceAdd, Nat.reduceSub, Nat.reduceMul, Nat.reduceLeDiff, Int.reduceLT, Int.reduceLE, Int.reduceEq, ↓reduceIte, Int.reduceNeg, Int.reduceAdd, Int.reduceSub, Int.reduceMul, true_imp_iff, forall_const, Nat.mul_one, Int.reduceToNat, Nat.reducePow, Int.reducePow, Bool.true_and, Bool.false_and, Bool.and_false, ←hF]
  refine hc.use ?_
  simp (disch := first | assumption | omega | (simp only [List.length_append, List.length_cons, List.length_nil]; omega)) only [go_sem, reduceCtorEq, Nat.reduceEqDiff, Nat.reduceAdd, Nat.reduceSub, Nat.reduceMul, Nat.reduceLeDiff, Int.reduceLT, Int.reduceLE, Int.reduceEq, ↓reduceIte, Int.reduceNeg, Int.reduceAdd, Int.reduceSub, Int.reduceMul, true_imp_iff, forall_const, Nat.mul_one, Int.reduceToNat, Nat.reducePow, Int.reducePow, Bool.true_and, Bool.false_and, Bool.and_false, ←hF]
  refine (lex_ok hU s (by omega)).mono ?_
  rintro v σ' ⟨rfl, rfl⟩
  rcases law with ⟨j, hj, h1⟩ | ⟨ts, m, b1, b2, b3, hsg, b4, b5, h1⟩
  · rw [h1]
    have hj' : (j : Int) < s.length := by omega
    simp (disch := first | assumption | omega | (simp only [List.length_append, List.length_cons, List.length_nil]; omega)) only [go_sem, reduceCtorEq, Nat.reduceEqDiff, Nat.reduceAdd, Nat.reduceSub, Nat.reduceMul, Nat.reduceLeDiff, Int.reduceLT, Int.reduceLE, Int.reduceEq, ↓reduceIte, Int.reduceNeg, Int.reduceAdd, Int.reduceSub, Int.reduceMul, true_imp_iff, forall_const, Nat.mul_one, Int.reduceToNat, Nat.reducePow, Int.reducePow, Bool.true_and, Bool.false_and, Bool.and_false, ←hF]
    refine (tawake_ok hU).mono ?_
    rintro v σ' ⟨rfl, rfl⟩
    simp (disch := first | assumption | omega | (simp only [List.length_append, List.length_cons, List.length_nil]; omega)) only [go_sem, reduceCtorEq, Nat.reduceEqDiff, Nat.reduceAdd, Nat.reduceSub, Nat.reduceMul, Nat.reduceLeDiff, Int.reduceLT, Int.reduceLE, Int.reduceEq, ↓reduceIte, Int.reduceNeg, Int.reduceAdd, Int.reduceSub, Int.reduceMul, true_imp_iff, forall_const, Nat.mul_one, Int.reduceToNat, Nat.reducePow, Int.reducePow, Bool.true_and, Bool.false_and, Bool.and_false, hj']
    exact retC_by (Drop.refl _) (.refl _) ⟨rfl, rfl⟩
  rw [h1]
  obtain ⟨L, hL⟩ : ∃ L, ts ++ [(⟨0, [], s.length, m⟩ : Tok)] = L := ⟨_, rfl⟩
  have lL : (L.map tokAV).length = ts.length + 1 := by rw [← hL]; simp
  have hsp : signsP s = ((m : Int), true) := by rw [signsP_eq, hsg]
  have hsn := tsigns_ok hU s (by omega)
  rw [hsp] at hsn
  -- each place is behind the one ahead of it
  have hj0 : ∀ i, i < ts.length + 1 → ∃ k t x c, L[i]? = some ⟨k, t, x, c⟩ ∧ c ≤ x ∧ x ≤ 400 ∧ ∀ j, i = j + 1 → ∃ k' t' x' c', L[j]? = some ⟨k', t', x', c'⟩ ∧ x' ≤ 400 ∧ c' ≤ 400 ∧ (k = 0 ∨ (x' < x ∧ c' < c)) := by
    intro i hi
    have hLl : L.length = ts.length + 1 := by rw [← hL]; simp
    have hbd : ∀ t ∈ L, t.col ≤ t.at' ∧ t.at' ≤ 400 := by
      intro t ht
      rw [← hL, List.mem_append, List.mem_singleton] at ht
      rcases ht with ht | rfl
      · exact b4 t ht
      · exact ⟨b3, hl⟩
    have hg : L[i]? = some (L[i]'(by omega)) := List.getElem?_eq_getElem (by omega)
    obtain ⟨t, ht⟩ : ∃ t, L[i]'(by omega) = t := ⟨_, rfl⟩
    rw [ht] at hg
    obtain ⟨g1, g2⟩ := hbd t (List.mem_of_getElem? hg)
    refine ⟨t.kind, t.text, t.at', t.col, hg, g1, g2, ?_⟩
    rintro j rfl
    have hg2 : L[j]? = some (L[j]'(by omega)) := List.getElem?_eq_getElem (by omega)
    obtain ⟨u, hu⟩ : ∃ u, L[j]'(by omega) = u := ⟨_, rfl⟩
    rw [hu] at hg2
    obtain ⟨g3, g4⟩ := hbd u (List.mem_of_getElem? hg2)
    refine ⟨u.kind, u.text, u.at', u.col, hg2, g4, by omega, ?_⟩
    by_cases hjt : j + 1 < ts.length
    · right
      have e1 : ts[j]'(by omega) = u := by
        rw [← hL, List.getElem?_append_left (by omega), List.getElem?_eq_getElem (by omega)] at hg2
        injection hg2
      have e2 : ts[j + 1]'hjt = t := by
        rw [← hL, List.getElem?_append_left hjt, List.getElem?_eq_getElem hjt] at hg
        injection hg
      have := List.pairwise_iff_getElem.1 b5 j (j + 1) (by omega) hjt (by omega)
      rw [e1, e2] at this
      exact this
    · left
      have : j + 1 = ts.length := by omega
      rw [← hL, List.getElem?_append_right (by omega), this, Nat.sub_self] at hg
      injection hg with hg
      rw [← hg]
  have hend : L[ts.length]? = some ⟨0, [], s.length, m⟩ := by rw [← hL, List.getElem?_append_right (by omega), Nat.sub_self]; rfl
  have iend := tok_at hend
  rw [hL]
  clear hL h1 hsg b4 b5 hend
  obtain ⟨p, hp⟩ : ∃ p, ts.length = p := ⟨_, rfl⟩
  rw [hp] at lL hj0 iend b1
  simp (disch := first | assumption | omega | (simp only [List.length_append, List.length_cons, List.length_nil]; omega)) only [go_sem, reduceCtorEq, Nat.reduceEqDiff, Nat.reduceAdd, Nat.reduceSub, Nat.reduceMul, Nat.reduceLeDiff, Int.reduceLT, Int.reduceLE, Int.reduceEq, ↓reduceIte, Int.reduceNeg, Int.reduceAdd, Int.reduceSub, Int.reduceMul, true_imp_iff, forall_const, Nat.mul_one, Int.reduceToNat, Nat.reducePow, Int.reducePow, Bool.true_and, Bool.false_and, Bool.and_false, ←hF]
  rw [hF]
  simp (disch := first | assumption | omega | (simp only [List.length_append, List.length_cons, List.length_nil]; omega)) only [go_sem, reduceCtorEq, Nat.reduceEqDiff, Nat.reduceAdd, Nat.reduceSub, Nat.reduceMul, Nat.reduceLeDiff, Int.reduceLT, Int.reduceLE, Int.reduceEq, ↓reduceIte, Int.reduceNeg, Int.reduceAdd, Int.reduceSub, Int.reduceMul, true_imp_iff, forall_const, Nat.mul_one, Int.reduceToNat, Nat.reducePow, Int.reducePow, Bool.true_and, Bool.false_and, Bool.and_false, lL]
  refine wp_loop_by (fun (i : Nat) a σ'' => i ≤ p + 1 ∧ (a 0 = .str s ∧ a 3 = .sl .shr (L.map tokAV) ∧ a 36 = .sl .shr (L.map tokAV) ∧ a 37 = .int .i64 ((p : Int) + 1) ∧ a 38 = .int .i64 i) ∧ σ'' = σ') (fun i => p + 1 - i) 0 (Dr.now ⟨Nat.zero_le _, ?_, rfl⟩) ?_
  · simp (disch := first | assumption | omega | (simp only [List.length_append, List.length_cons, List.length_nil]; omega)) only [go_sem, reduceCtorEq, Nat.reduceEqDiff, Nat.reduceAdd, Nat.reduceSub, Nat.reduceMul, Nat.reduceLeDiff, Int.reduceLT, Int.reduceLE, Int.reduceEq, ↓reduceIte, Int.reduceNeg, Int.reduceAdd, Int.reduceSub, Int.reduceMul, true_imp_iff, forall_const, Nat.mul_one, Int.reduceToNat, Nat.reducePow, Int.reducePow, Bool.true_and, Bool.false_and, Bool.and_false]
  rintro i a σ2 ⟨hi, hf, rfl⟩
  by_cases hlt : i < p + 1
  · have hlt' : (i : Int) < p + 1 := by omega
    obtain ⟨k, tx, x, c, g1, g2, g3, g4⟩ := hj0 i hlt
    have i1 := tok_at g1
    have g2' : ¬ (x : Int) < c := by omega
    simp (disch := first | assumption | omega | (simp only [List.length_append, List.length_cons, List.length_nil]; omega)) only [go_sem, reduceCtorEq, Nat.reduceEqDiff, Nat.reduceAdd, Nat.reduceSub, Nat.reduceMul, Nat.reduceLeDiff, Int.reduceLT, Int.reduceLE, Int.reduceEq, ↓reduceIte, Int.reduceNeg, Int.reduceAdd, Int.reduceSub, Int.reduceMul, true_imp_iff, forall_const, Nat.mul_one, Int.reduceToNat, Nat.reducePow, Int.reducePow, Bool.true_and, Bool.false_and, Bool.and_false, hf, hlt', i1]
    refine allocC_by fun b1 hb1 => ?_
    by_cases hi0 : i = 0
    · subst hi0
      simp (disch := first | assumption | omega | (simp only [List.length_append, List.length_cons, List.length_nil]; omega)) only [go_sem, reduceCtorEq, Nat.reduceEqDiff, Nat.reduceAdd, Nat.reduceSub, Nat.reduceMul, Nat.reduceLeDiff, Int.reduceLT, Int.reduceLE, Int.reduceEq, ↓reduceIte, Int.reduceNeg, Int.reduceAdd, Int.reduceSub, Int.reduceMul, true_imp_iff, forall_const, Nat.mul_one, Int.reduceToNat, Nat.reducePow, Int.reducePow, Bool.true_and, Bool.false_and, Bool.and_false, hf, hlt', i1, g2']
      refine ⟨0 + 1, by dsimp only; omega, Dr.drop (by repeat' (first | exact Drop.refl _ | with_reducible refine Drop.off ?_ (by assumption))) ⟨by omega, ?_, rfl⟩⟩
      simp (disch := first | assumption | omega | (simp only [List.length_append, List.length_cons, List.length_nil]; omega)) only [go_sem, reduceCtorEq, Nat.reduceEqDiff, Nat.reduceAdd, Nat.reduceSub, Nat.reduceMul, Nat.reduceLeDiff, Int.reduceLT, Int.reduceLE, Int.reduceEq, ↓reduceIte, Int.reduceNeg, Int.reduceAdd, Int.reduceSub, Int.reduceMul, true_imp_iff, forall_const, Nat.mul_one, Int.reduceToNat, Nat.reducePow, Int.reducePow, Bool.true_and, Bool.false_and, Bool.and_false, hf]
    · obtain ⟨j, rfl⟩ : ∃ j, i = j + 1 := ⟨i - 1, by omega⟩
      obtain ⟨k', tx', x', c', g5, g6, g7, g8⟩ := g4 j rfl
      have i2 := tok_at g5
      have e1 : (0 : Int) < (j : Int) + 1 := by omega
      have e2 : (j : Int) + 1 - 1 = j := by omega
      rcases g8 with rfl | ⟨g8, g9⟩
      · by_cases hx : (x : Int) ≤ x'
        · by_cases hcc : (c : Int) ≤ c'
          · simp (disch := first | assumption | omega | (simp only [List.length_append, List.length_cons, List.length_nil]; omega)) only [go_sem, reduceCtorEq, Nat.reduceEqDiff, Nat.reduceAdd, Nat.reduceSub, Nat.reduceMul, Nat.reduceLeDiff, Int.reduceLT, Int.reduceLE, Int.reduceEq, ↓reduceIte, Int.reduceNeg, Int.reduceAdd, Int.reduceSub, Int.reduceMul, true_imp_iff, forall_const, Nat.mul_one, Int.reduceToNat, Nat.reducePow, Int.reducePow, Bool.true_and, Bool.false_and, Bool.and_false, hf, hlt', i1, i2, g2', e1, e2, hx, hcc]
            refine ⟨j + 1 + 1, by dsimp only; omega, Dr.drop (by repeat' (first | exact Drop.refl _ | with_reducible refine Drop.off ?_ (by assumption))) ⟨by omega, ?_, rfl⟩⟩
            simp (disch := first | assumption | omega | (simp only [List.length_append, List.length_cons, List.length_nil]; omega)) only [go_sem, reduceCtorEq, Nat.reduceEqDiff, Nat.reduceAdd, Nat.reduceSub, Nat.reduceMul, Nat.reduceLeDiff, Int.reduceLT, Int.reduceLE, Int.reduceEq, ↓reduceIte, Int.reduceNeg, Int.reduceAdd, Int.reduceSub, Int.reduceMul, true_imp_iff, forall_const, Nat.mul_one, Int.reduceToNat, Nat.reducePow, Int.reducePow, Bool.true_and, Bool.false_and, Bool.and_false, hf]
          · simp (disch := first | assumption | omega | (simp only [List.length_append, List.length_cons, List.length_nil]; omega)) only [go_sem, reduceCtorEq, Nat.reduceEqDiff, Nat.reduceAdd, Nat.reduceSub, Nat.reduceMul, Nat.reduceLeDiff, Int.reduceLT, Int.reduceLE, Int.reduceEq, ↓reduceIte, Int.reduceNeg, Int.reduceAdd, Int.reduceSub, Int.reduceMul, true_imp_iff, forall_const, Nat.mul_one, Int.reduceToNat, Nat.reducePow, Int.reducePow, Bool.true_and, Bool.false_and, Bool.and_false, hf, hlt', i1, i2, g2', e1, e2, hx, hcc]
            refine ⟨j + 1 + 1, by dsimp only; omega, Dr.drop (by repeat' (first | exact Drop.refl _ | with_reducible refine Drop.off ?_ (by assumption))) ⟨by omega, ?_, rfl⟩⟩
            simp (disch := first | assumption | omega | (simp only [List.length_append, List.length_cons, List.length_nil]; omega)) only [go_sem, reduceCtorEq, Nat.reduceEqDiff, Nat.reduceAdd, Nat.reduceSub, Nat.reduceMul, Nat.reduceLeDiff, Int.reduceLT, Int.reduceLE, Int.reduceEq, ↓reduceIte, Int.reduceNeg, Int.reduceAdd, Int.reduceSub, Int.reduceMul, true_imp_iff, forall_const, Nat.mul_one, Int.reduceToNat, Nat.reducePow, Int.reducePow, Bool.true_and, Bool.false_and, Bool.and_false, hf]
        · by_cases hcc : (c : Int) ≤ c'
          · simp (disch := first | assumption | omega | (simp only [List.length_append, List.length_cons, List.length_nil]; omega)) only [go_sem, reduceCtorEq, Nat.reduceEqDiff, Nat.reduceAdd, Nat.reduceSub, Nat.reduceMul, Nat.reduceLeDiff, Int.reduceLT, Int.reduceLE, Int.reduceEq, ↓reduceIte, Int.reduceNeg, Int.reduceAdd, Int.reduceSub, Int.reduceMul, true_imp_iff, forall_const, Nat.mul_one, Int.reduceToNat, Nat.reducePow, Int.reducePow, Bool.true_and, Bool.false_and, Bool.and_false, hf, hlt', i1, i2, g2', e1, e2, hx, hcc]
            refine ⟨j + 1 + 1, by dsimp only; omega, Dr.drop (by repeat' (first | exact Drop.refl _ | with_reducible refine Drop.off ?_ (by assumption))) ⟨by omega, ?_, rfl⟩⟩
            simp (disch := first | assumption | omega | (simp only [List.length_append, List.length_cons, List.length_nil]; omega)) only [go_sem, reduceCtorEq, Nat.reduceEqDiff, Nat.reduceAdd, Nat.reduceSub, Nat.reduceMul, Nat.reduceLeDiff, Int.reduceLT, Int.reduceLE, Int.reduceEq, ↓reduceIte, Int.reduceNeg, Int.reduceAdd, Int.reduceSub, Int.reduceMul, true_imp_iff, forall_const, Nat.mul_one, Int.reduceToNat, Nat.reducePow, Int.reducePow, Bool.true_and, Bool.false_and, Bool.and_false, hf]
          · simp (disch := first | assumption | omega | (simp only [List.length_append, List.length_cons, List.length_nil]; omega)) only [go_sem, reduceCtorEq, Nat.reduceEqDiff, Nat.reduceAdd, Nat.reduceSub, Nat.reduceMul, Nat.reduceLeDiff, Int.reduceLT, Int.reduceLE, Int.reduceEq, ↓reduceIte, Int.reduceNeg, Int.reduceAdd, Int.reduceSub, Int.reduceMul, true_imp_iff, forall_const, Nat.mul_one, Int.reduceToNat, Nat.reducePow, Int.reducePow, Bool.true_and, Bool.false_and, Bool.and_false, hf, hlt', i1, i2, g2', e1, e2, hx, hcc]
            refine ⟨j + 1 + 1, by dsimp only; omega, Dr.drop (by repeat' (first | exact Drop.refl _ | with_reducible refine Drop.off ?_ (by assumption))) ⟨by omega, ?_, rfl⟩⟩
            simp (disch := first | assumption | omega | (simp only [List.length_append, List.length_cons, List.length_nil]; omega)) only [go_sem, reduceCtorEq, Nat.reduceEqDiff, Nat.reduceAdd, Nat.reduceSub, Nat.reduceMul, Nat.reduceLeDiff, Int.reduceLT, Int.reduceLE, Int.reduceEq, ↓reduceIte, Int.reduceNeg, Int.reduceAdd, Int.reduceSub, Int.reduceMul, true_imp_iff, forall_const, Nat.mul_one, Int.reduceToNat, Nat.reducePow, Int.reducePow, Bool.true_and, Bool.false_and, Bool.and_false, hf]
      · have hx : ¬ (x : Int) ≤ x' := by omega
        have hcc : ¬ (c : Int) ≤ c' := by omega
        simp (disch := first | assumption | omega | (simp only [List.length_append, List.length_cons, List.length_nil]; omega)) only [go_sem, reduceCtorEq, Nat.reduceEqDiff, Nat.reduceAdd, Nat.reduceSub, Nat.reduceMul, Nat.reduceLeDiff, Int.reduceLT, Int.reduceLE, Int.reduceEq, ↓reduceIte, Int.reduceNeg, Int.reduceAdd, Int.reduceSub, Int.reduceMul, true_imp_iff, forall_const, Nat.mul_one, Int.reduceToNat, Nat.reducePow, Int.reducePow, Bool.true_and, Bool.false_and, Bool.and_false, hf, hlt', i1, i2, g2', e1, e2, hx, hcc]
        refine ⟨j + 1 + 1, by dsimp only; omega, Dr.drop (by repeat' (first | exact Drop.refl _ | with_reducible refine Drop.off ?_ (by assumption))) ⟨by omega, ?_, rfl⟩⟩
        simp (disch := first | assumption | omega | (simp only [List.length_append, List.length_cons, List.length_nil]; omega)) only [go_sem, reduceCtorEq, Nat.reduceEqDiff, Nat.reduceAdd, Nat.reduceSub, Nat.reduceMul, Nat.reduceLeDiff, Int.reduceLT, Int.reduceLE, Int.reduceEq, ↓reduceIte, Int.reduceNeg, Int.reduceAdd, Int.reduceSub, Int.reduceMul, true_imp_iff, forall_const, Nat.mul_one, Int.reduceToNat, Nat.reducePow, Int.reducePow, Bool.true_and, Bool.false_and, Bool.and_false, hf]
  · have hlt' : ¬ (i : Int) < p + 1 := by omega
    have ep : (p : Int) + 1 - 1 = p := by omega
    simp (disch := first | assumption | omega | (simp only [List.length_append, List.length_cons, List.length_nil]; omega)) only [go_sem, reduceCtorEq, Nat.reduceEqDiff, Nat.reduceAdd, Nat.reduceSub, Nat.reduceMul, Nat.reduceLeDiff, Int.reduceLT, Int.reduceLE, Int.reduceEq, ↓reduceIte, Int.reduceNeg, Int.reduceAdd, Int.reduceSub, Int.reduceMul, true_imp_iff, forall_const, Nat.mul_one, Int.reduceToNat, Nat.reducePow, Int.reducePow, Bool.true_and, Bool.false_and, Bool.and_false, hf, hlt']
    refine hsn.mono ?_
    rintro v σ' ⟨rfl, rfl⟩
    simp (disch := first | assumption | omega | (simp only [List.length_append, List.length_cons, List.length_nil]; omega)) only [go_sem, reduceCtorEq, Nat.reduceEqDiff, Nat.reduceAdd, Nat.reduceSub, Nat.reduceMul, Nat.reduceLeDiff, Int.reduceLT, Int.reduceLE, Int.reduceEq, ↓reduceIte, Int.reduceNeg, Int.reduceAdd, Int.reduceSub, Int.reduceMul, true_imp_iff, forall_const, Nat.mul_one, Int.reduceToNat, Nat.reducePow, Int.reducePow, Bool.true_and, Bool.false_and, Bool.and_false, hf]
    refine (tawake_ok hU).mono ?_
    rintro v σ' ⟨rfl, rfl⟩
    simp (disch := first | assumption | omega | (simp only [List.length_append, List.length_cons, List.length_nil]; omega)) only [go_sem, reduceCtorEq, Nat.reduceEqDiff, Nat.reduceAdd, Nat.reduceSub, Nat.reduceMul, Nat.reduceLeDiff, Int.reduceLT, Int.reduceLE, Int.reduceEq, ↓reduceIte, Int.reduceNeg, Int.reduceAdd, Int.reduceSub, Int.reduceMul, true_imp_iff, forall_const, Nat.mul_one, Int.reduceToNat, Nat.reducePow, Int.reducePow, Bool.true_and, Bool.false_and, Bool.and_false, hf, lL, ep, iend]
    exact retC_by (Drop.refl _) (.refl _) ⟨rfl, rfl⟩
end Go.A
