/- VintSpans, walked. -/
import Derived.Test.YthkcifdjfoggeaaVs
namespace Go.A
open Go.Proofs Go.Vint
set_option maxRecDepth 100000
set_option linter.unusedSimpArgs false
set_option linter.unusedVariables false

/-- A slice that is one's own, or will be. -/
def Gr (σ0 σ : ASt) (k : SK) (n s : Nat) : Prop := (k = .full ∧ σ = σ0) ∨ ∃ b, k = .tok b s ∧ σ0 b = none ∧ σ = σ0.set b (some (.tok (n * s)))
theorem Gr.drop {σ0 σ : ASt} {k : SK} {n s : Nat} (h : Gr σ0 σ k n s) : Drop σ σ0 := by
  rcases h with ⟨_, rfl⟩ | ⟨b, _, hb, rfl⟩
  · exact Drop.refl _
  · exact Drop.set hb
theorem Gr.at {σ0 σ : ASt} {k : SK} {n s x : Nat} {r : Role} (h : Gr σ0 σ k n s) (hx : σ0 x = some r) : σ x = some r := by
  rcases h with ⟨_, rfl⟩ | ⟨b, _, hb, rfl⟩
  · exact hx
  · have : x ≠ b := by rintro rfl; rw [hb] at hx; cases hx
    rw [ASt.set_ne this]; exact hx
theorem Gr.app {σ0 σ σ' : ASt} {k k' : SK} {n m s : Nat} (h : Gr σ0 σ k n s) (ha : App σ k s n m k' σ') : Gr σ0 σ' k' (n + m) s := by
  rcases h with ⟨rfl, rfl⟩ | ⟨b, rfl, hb, rfl⟩
  · cases ha with
    | none hm => subst hm; exact .inl ⟨rfl, rfl⟩
    | room b hb => cases hb
    | grow b hb _ => exact .inr ⟨b, rfl, hb, rfl⟩
  · have hg : Grown σ0 (σ0.set b (some (.tok (n * s)))) (.tok b s) n s := .inr ⟨b, rfl, hb, rfl⟩
    rcases hg.app ha with ⟨h1, _, h3⟩ | h4
    · exact .inl ⟨h1, h3⟩
    · exact .inr h4
theorem Gr.plus {σ0 σ : ASt} {k : SK} {n s c : Nat} {q : Role} (hg : Gr σ0 σ k n s) (hc : σ c = none) : Gr (σ0.set c (some q)) (σ.set c (some q)) k n s ∧ σ0 c = none := by
  rcases hg with ⟨h1, rfl⟩ | ⟨t, h1, h2, rfl⟩
  · exact ⟨.inl ⟨h1, rfl⟩, hc⟩
  · obtain ⟨h3, h4, h5⟩ := set_none hc
    exact ⟨.inr ⟨t, h1, by rw [ASt.set_ne h4]; exact h2, set_swap h4⟩, h5⟩
theorem Gr.less {σ0 σ : ASt} {k : SK} {n s c : Nat} {q : Role} (h : Gr (σ0.set c (some q)) σ k n s) (hc : σ0 c = none) : ∃ σ', Drop σ σ' ∧ Gr σ0 σ' k n s := by
  rcases h with ⟨h1, rfl⟩ | ⟨t, h1, h2, rfl⟩
  · exact ⟨σ0, Drop.set hc, .inl ⟨h1, rfl⟩⟩
  · obtain ⟨h3, h4, h5⟩ := set_none h2
    refine ⟨σ0.set t (some (.tok (n * s))), ?_, .inr ⟨t, h1, h5, rfl⟩⟩
    rw [set_swap h4]
    exact Drop.set (by rw [ASt.set_ne h4]; exact hc)
theorem appG_by {σ0 σ : ASt} {k k2 : SK} {s bytes : Nat} {z xs ys : List AV} {K : AV → ASt → Prop} (h : Gr σ0 σ k xs.length s) (hx : wellSz s xs = true) (h2 : wellSz s ys = true) (h3 : leaves (ys.flatMap AV.cells) = true) (h4 : (xs.length + ys.length) * bytes ≤ 140737488355328) (h5 : xs.length + ys.length ≤ 4611686018427387904)
    (hK : ∀ k' σ', Gr σ0 σ' k' (xs ++ ys).length s → K (.sl k' (xs ++ ys)) σ') : appC s bytes z (.sl k xs) (.sl k2 ys) σ K := by
  refine ⟨?_, h2, h3, h4, h5, .inl fun k' σ' ha => hK k' σ' (by rw [List.length_append]; exact h.app ha)⟩
  rcases h with ⟨rfl, rfl⟩ | ⟨b, rfl, hb, rfl⟩
  · exact hx
  · exact ⟨rfl, ASt.set_same _ _ _⟩

/-- Cells of spans. -/
theorem flat_cells {X : List (Int × Int)} {i : Nat} {x : Int × Int} {rest : List AV} (h : X[i]? = some x) : (((X.map spanV).flatMap AV.cells ++ rest).drop (i * 2)).take 2 = [.int .u64 x.1, .int .u64 x.2] := by
  induction X generalizing i with
  | nil => simp at h
  | cons y X ih =>
    cases i with
    | zero => simp at h; subst h; rfl
    | succ i =>
      have := ih (i := i) (by simpa using h)
      rw [show (i + 1) * 2 = i * 2 + 2 by omega]
      exact this
theorem flat_cells_len (X : List (Int × Int)) : ((X.map spanV).flatMap AV.cells).length = X.length * 2 := by
  induction X with
  | nil => rfl
  | cons y X ih =>
    have e : ((spanV y :: X.map spanV).flatMap AV.cells).length = 2 + ((X.map spanV).flatMap AV.cells).length := by simp [spanV, AV.cells]; omega
    rw [List.map_cons, e, ih, List.length_cons]; omega

/-- told, of memory that may be written. -/
theorem told_own (X : List (Int × Int)) (hn : X.length ≤ 1000000) (b c : Nat) (rest : List AV) (σ : ASt) (hb : σ b = some (.obj ((X.map spanV).flatMap AV.cells ++ rest))) :
    ACalls Try.prog 21 [.msl b 0 X.length c] σ fun v σ' => v = spansV X ∧ σ' = σ := by
  refine a21 (by simp) ?_
  obtain ⟨F, hF⟩ : ∃ F, F = ACode.wp Try.prog c21_17 := ⟨_, rfl⟩
  simp (disch := first | assumption | omega | (simp only [List.length_append]; omega)) only [go_sem, reduceCtorEq, Nat.reduceEqDiff, Nat.reduceAdd, Nat.reduceSub, Nat.reduceMul, Nat.reduceLeDiff, Int.reduceLT, Int.reduceLE, Int.reduceEq, ↓reduceIte, Int.reduceNeg, Int.reduceAdd, Int.reduceSub, Int.reduceMul, true_imp_iff, forall_const, Nat.mul_one, Int.reduceToNat, Nat.reducePow, Int.reducePow, Bool.true_and, Bool.false_and, Bool.and_false, ←hF]
  refine wp_loop_by (fun (i : Nat) a σ' => i ≤ X.length ∧ (a 7 = .msl b 0 X.length c ∧ a 8 = .int .i64 X.length ∧ a 9 = .int .i64 i) ∧ ∃ k, a 3 = .sl k ((X.take i).map spanV) ∧ Grown σ σ' k ((X.take i).map spanV).length 2)
    (fun i => X.length - i) 0 (Dr.now ⟨Nat.zero_le _, ?_, .full, ?_, .inl ⟨rfl, by simp, rfl⟩⟩) ?_
  · simp (disch := first | assumption | omega | (simp only [List.length_append]; omega)) only [go_sem, reduceCtorEq, Nat.reduceEqDiff, Nat.reduceAdd, Nat.reduceSub, Nat.reduceMul, Nat.reduceLeDiff, Int.reduceLT, Int.reduceLE, Int.reduceEq, ↓reduceIte, Int.reduceNeg, Int.reduceAdd, Int.reduceSub, Int.reduceMul, true_imp_iff, forall_const, Nat.mul_one, Int.reduceToNat, Nat.reducePow, Int.reducePow, Bool.true_and, Bool.false_and, Bool.and_false]
  · simp (disch := first | assumption | omega | (simp only [List.length_append]; omega)) only [go_sem, reduceCtorEq, Nat.reduceEqDiff, Nat.reduceAdd, Nat.reduceSub, Nat.reduceMul, Nat.reduceLeDiff, Int.reduceLT, Int.reduceLE, Int.reduceEq, ↓reduceIte, Int.reduceNeg, Int.reduceAdd, Int.reduceSub, Int.reduceMul, true_imp_iff, forall_const, Nat.mul_one, Int.reduceToNat, Nat.reducePow, Int.reducePow, Bool.true_and, Bool.false_and, Bool.and_false]
  rintro i a σ1 ⟨hi, hf, k, h3, hg⟩
  by_cases hlt : i < X.length
  · have hlt' : (i : Int) < X.length := by omega
    have hx : X[i]? = some (X[i]'hlt) := List.getElem?_eq_getElem hlt
    obtain ⟨x, hxx⟩ : ∃ x, X[i]'hlt = x := ⟨_, rfl⟩
    rw [hxx] at hx
    have hb1 := hg.at hb
    have hfc := flat_cells (rest := rest) hx
    have hfl := flat_cells_len X
    have hfit : i * 2 + 2 ≤ ((X.map spanV).flatMap AV.cells ++ rest).length := by rw [List.length_append, hfl]; omega
    obtain ⟨T, hT⟩ : ∃ T, (X.map spanV).flatMap AV.cells ++ rest = T := ⟨_, rfl⟩
    rw [hT] at hb1 hfc hfit
    simp (disch := first | assumption | omega | (simp only [List.length_append]; omega)) only [go_sem, reduceCtorEq, Nat.reduceEqDiff, Nat.reduceAdd, Nat.reduceSub, Nat.reduceMul, Nat.reduceLeDiff, Int.reduceLT, Int.reduceLE, Int.reduceEq, ↓reduceIte, Int.reduceNeg, Int.reduceAdd, Int.reduceSub, Int.reduceMul, true_imp_iff, forall_const, Nat.mul_one, Int.reduceToNat, Nat.reducePow, Int.reducePow, Bool.true_and, Bool.false_and, Bool.and_false, hf, h3, hlt', hb1, hfit, hfc, ←hF]
    refine allocC_by fun d hd => ?_
    obtain ⟨hga, hd0⟩ := hg.plus hd (q := .obj [.int .u64 x.1, .int .u64 x.2])
    simp (disch := first | assumption | omega | (simp only [List.length_append]; omega)) only [go_sem, reduceCtorEq, Nat.reduceEqDiff, Nat.reduceAdd, Nat.reduceSub, Nat.reduceMul, Nat.reduceLeDiff, Int.reduceLT, Int.reduceLE, Int.reduceEq, ↓reduceIte, Int.reduceNeg, Int.reduceAdd, Int.reduceSub, Int.reduceMul, true_imp_iff, forall_const, Nat.mul_one, Int.reduceToNat, Nat.reducePow, Int.reducePow, Bool.true_and, Bool.false_and, Bool.and_false, hf, h3, ←hF]
    refine appC_by hga rfl rfl (by simp; omega) (by simp; omega) fun k' σ' hg' => ?_
    have hap : (X.take i).map spanV ++ [.agg [.int .u64 x.1, .int .u64 x.2]] = (X.take (i + 1)).map spanV := by
      obtain ⟨h1, h2⟩ := List.getElem?_eq_some_iff.1 hx
      rw [List.take_succ_eq_append_getElem h1, h2]; simp [spanV]
    rw [hap] at hg' ⊢
    obtain ⟨σ2, hdr, hg2⟩ := hg'.less hd0
    simp (disch := first | assumption | omega | (simp only [List.length_append]; omega)) only [go_sem, reduceCtorEq, Nat.reduceEqDiff, Nat.reduceAdd, Nat.reduceSub, Nat.reduceMul, Nat.reduceLeDiff, Int.reduceLT, Int.reduceLE, Int.reduceEq, ↓reduceIte, Int.reduceNeg, Int.reduceAdd, Int.reduceSub, Int.reduceMul, true_imp_iff, forall_const, Nat.mul_one, Int.reduceToNat, Nat.reducePow, Int.reducePow, Bool.true_and, Bool.false_and, Bool.and_false, hf, ←hF]
    refine ⟨i + 1, by dsimp only; omega, Dr.drop hdr ⟨by omega, ?_, k', ?_, by simpa using hg2⟩⟩
    · simp (disch := first | assumption | omega | (simp only [List.length_append]; omega)) only [go_sem, reduceCtorEq, Nat.reduceEqDiff, Nat.reduceAdd, Nat.reduceSub, Nat.reduceMul, Nat.reduceLeDiff, Int.reduceLT, Int.reduceLE, Int.reduceEq, ↓reduceIte, Int.reduceNeg, Int.reduceAdd, Int.reduceSub, Int.reduceMul, true_imp_iff, forall_const, Nat.mul_one, Int.reduceToNat, Nat.reducePow, Int.reducePow, Bool.true_and, Bool.false_and, Bool.and_false, hf]
    · rfl
  · have hlt' : ¬ (i : Int) < X.length := by omega
    have e : X.take i = X := List.take_of_length_le (by omega)
    rw [e] at h3 hg
    simp (disch := first | assumption | omega | (simp only [List.length_append]; omega)) only [go_sem, reduceCtorEq, Nat.reduceEqDiff, Nat.reduceAdd, Nat.reduceSub, Nat.reduceMul, Nat.reduceLeDiff, Int.reduceLT, Int.reduceLE, Int.reduceEq, ↓reduceIte, Int.reduceNeg, Int.reduceAdd, Int.reduceSub, Int.reduceMul, true_imp_iff, forall_const, Nat.mul_one, Int.reduceToNat, Nat.reducePow, Int.reducePow, Bool.true_and, Bool.false_and, Bool.and_false, hf, h3, hlt', ←hF]
    rw [hF]
    simp (disch := first | assumption | omega | (simp only [List.length_append]; omega)) only [go_sem, reduceCtorEq, Nat.reduceEqDiff, Nat.reduceAdd, Nat.reduceSub, Nat.reduceMul, Nat.reduceLeDiff, Int.reduceLT, Int.reduceLE, Int.reduceEq, ↓reduceIte, Int.reduceNeg, Int.reduceAdd, Int.reduceSub, Int.reduceMul, true_imp_iff, forall_const, Nat.mul_one, Int.reduceToNat, Nat.reducePow, Int.reducePow, Bool.true_and, Bool.false_and, Bool.and_false, h3]
    exact retC_by hg.drop (.sl _ _) ⟨rfl, rfl⟩

theorem has_with {X : List (Int × Int)} {s : Int × Int} (h : Norm X) (u : Int) : hasB (withL X s) u = (hasB X u || decide (s.1 ≤ u ∧ u < s.2)) := by
  have := withL_in s h u
  rw [Bool.eq_iff_iff]
  simp only [hasB, decide_eq_true_eq, Bool.or_eq_true]
  rw [this]
  exact ⟨fun h => h.symm, fun h => h.symm⟩
theorem has_without {X : List (Int × Int)} {s : Int × Int} (u : Int) : hasB (withoutL X s) u = (hasB X u && !decide (s.1 ≤ u ∧ u < s.2)) := by
  have := withoutL_in (L := X) s u
  rw [Bool.eq_iff_iff]
  simp only [hasB, decide_eq_true_eq, Bool.and_eq_true, Bool.not_eq_true', decide_eq_false_iff_not]
  exact this

set_option maxHeartbeats 2000000 in
theorem spans_ask (X : List (Int × Int)) (hX : X.length ≤ 10) (hN : Norm X) (s1 s2 : Int) (M : List Int) (hM : M.length ≤ 9223372036854775807) (c4 : Nat) (σ : ASt) (hc4 : σ c4 = some (.obj [.int .u64 s1, .int .u64 s2]))
    (A B : List (Int × Int)) (hA : withL X (s1, s2) = A) (hB : withoutL X (s1, s2) = B) (hAN : Norm A) (hBN : Norm B) (hAl : A.length ≤ 11) (hBl : B.length ≤ 20)
    (a : AFr) (hf : a 2 = .sl .shr (M.map (AV.int .u64)) ∧ a 4 = .ptr c4 0 ∧ a 7 = .sl .shr (X.map spanV) ∧ a 11 = .sl .shr (A.map spanV) ∧ a 12 = .sl .shr (B.map spanV)) :
    ACode.wp Try.prog c6_73 (RetQ [.t 6] fun v _ => v = .bool true) a σ := by
  obtain ⟨F, hF⟩ : ∃ F, F = ACode.wp Try.prog c6_71 := ⟨_, rfl⟩
  -- each number that is asked
  have asked : ∀ (a : AFr) (σ1 : ASt) (k : SK) (Z : List Int), Z.length ≤ 1000 → σ1 c4 = some (.obj [.int .u64 s1, .int .u64 s2]) → (a 4 = .ptr c4 0 ∧ a 7 = .sl .shr (X.map spanV) ∧ a 11 = .sl .shr (A.map spanV) ∧ a 12 = .sl .shr (B.map spanV)) → a 13 = .sl k (Z.map (AV.int .u64)) →
      F (RetQ [.t 6] fun v _ => v = .bool true) a σ1 := by
    intro a σ1 k Z hZ hc4 hf h13
    rw [hF]
    simp (disch := first | assumption | omega | (simp only [List.length_append]; omega)) only [go_sem, reduceCtorEq, Nat.reduceEqDiff, Nat.reduceAdd, Nat.reduceSub, Nat.reduceMul, Nat.reduceLeDiff, Int.reduceLT, Int.reduceLE, Int.reduceEq, ↓reduceIte, Int.reduceNeg, Int.reduceAdd, Int.reduceSub, Int.reduceMul, true_imp_iff, forall_const, Nat.mul_one, Int.reduceToNat, Nat.reducePow, Int.reducePow, Bool.true_and, Bool.false_and, Bool.and_false, h13]
    refine wp_loop_on (fun (i : Nat) a σ' => i ≤ Z.length ∧ (a 4 = .ptr c4 0 ∧ a 7 = .sl .shr (X.map spanV) ∧ a 11 = .sl .shr (A.map spanV) ∧ a 12 = .sl .shr (B.map spanV) ∧ a 110 = .sl k (Z.map (AV.int .u64)) ∧ a 111 = .int .i64 Z.length ∧ a 112 = .int .i64 i) ∧ σ' = σ1)
      (fun i => Z.length - i) 0 ⟨Nat.zero_le _, ?_, rfl⟩ ?_
    · simp (disch := first | assumption | omega | (simp only [List.length_append]; omega)) only [go_sem, reduceCtorEq, Nat.reduceEqDiff, Nat.reduceAdd, Nat.reduceSub, Nat.reduceMul, Nat.reduceLeDiff, Int.reduceLT, Int.reduceLE, Int.reduceEq, ↓reduceIte, Int.reduceNeg, Int.reduceAdd, Int.reduceSub, Int.reduceMul, true_imp_iff, forall_const, Nat.mul_one, Int.reduceToNat, Nat.reducePow, Int.reducePow, Bool.true_and, Bool.false_and, Bool.and_false, hf]
    clear hf h13
    rintro i a σ2 ⟨hi, hf, rfl⟩
    by_cases hlt : i < Z.length
    · have hlt' : (i : Int) < Z.length := by omega
      have hx : Z[i]? = some (Z[i]'hlt) := List.getElem?_eq_getElem hlt
      obtain ⟨u, hxx⟩ : ∃ x, Z[i]'hlt = x := ⟨_, rfl⟩
      rw [hxx] at hx
      have hmx := u64_get hx
      simp (disch := first | assumption | omega | (simp only [List.length_append]; omega)) only [go_sem, reduceCtorEq, Nat.reduceEqDiff, Nat.reduceAdd, Nat.reduceSub, Nat.reduceMul, Nat.reduceLeDiff, Int.reduceLT, Int.reduceLE, Int.reduceEq, ↓reduceIte, Int.reduceNeg, Int.reduceAdd, Int.reduceSub, Int.reduceMul, true_imp_iff, forall_const, Nat.mul_one, Int.reduceToNat, Nat.reducePow, Int.reducePow, Bool.true_and, Bool.false_and, Bool.and_false, hf, hlt', hmx]
      refine (told_ok X (by omega)).use ?_
      simp (disch := first | assumption | omega | (simp only [List.length_append]; omega)) only [go_sem, reduceCtorEq, Nat.reduceEqDiff, Nat.reduceAdd, Nat.reduceSub, Nat.reduceMul, Nat.reduceLeDiff, Int.reduceLT, Int.reduceLE, Int.reduceEq, ↓reduceIte, Int.reduceNeg, Int.reduceAdd, Int.reduceSub, Int.reduceMul, true_imp_iff, forall_const, Nat.mul_one, Int.reduceToNat, Nat.reducePow, Int.reducePow, Bool.true_and, Bool.false_and, Bool.and_false, hf]
      refine (refHas_ok X u (by omega)).use ?_
      have hha := has_with (s := (s1, s2)) hN u
      have hhb := has_without (X := X) (s := (s1, s2)) u
      rw [hA] at hha
      rw [hB] at hhb
      dsimp only at hha hhb
      have hHX := Has_ok X u (by omega) hN
      have hHA := Has_ok A u (by omega) hAN
      have hHB := Has_ok B u (by omega) hBN
      rw [hha] at hHA
      rw [hhb] at hHB
      generalize hasB X u = hx0 at *
      have done : ∀ (of : Bool), decide (s1 ≤ u ∧ u < s2) = of → ∀ a : AFr, (a 4 = .ptr c4 0 ∧ a 7 = .sl .shr (X.map spanV) ∧ a 11 = .sl .shr (A.map spanV) ∧ a 12 = .sl .shr (B.map spanV) ∧ a 110 = .sl k (Z.map (AV.int .u64)) ∧ a 111 = .int .i64 Z.length ∧ a 112 = .int .i64 i ∧ a 17 = .int .u64 u ∧ a 18 = .bool hx0 ∧ a 19 = .bool of) →
          ACode.wp Try.prog c6_57 (BlockQ 5 (SeqQ (ACode.wp Try.prog c6_62) (LoopQ (fun a σ' => ∃ j, Z.length - j < Z.length - i ∧ j ≤ Z.length ∧ (a 4 = .ptr c4 0 ∧ a 7 = .sl .shr (X.map spanV) ∧ a 11 = .sl .shr (A.map spanV) ∧ a 12 = .sl .shr (B.map spanV) ∧ a 110 = .sl k (Z.map (AV.int .u64)) ∧ a 111 = .int .i64 Z.length ∧ a 112 = .int .i64 j) ∧ σ' = σ2) (BlockQ 4 (SeqQ (ACode.wp Try.prog c6_70) (RetQ [.t 6] fun v _ => v = .bool true)))))) a σ2 := by
        intro of hof a hf
        rw [hof] at hHA hHB
        simp (disch := first | assumption | omega | (simp only [List.length_append]; omega)) only [go_sem, reduceCtorEq, Nat.reduceEqDiff, Nat.reduceAdd, Nat.reduceSub, Nat.reduceMul, Nat.reduceLeDiff, Int.reduceLT, Int.reduceLE, Int.reduceEq, ↓reduceIte, Int.reduceNeg, Int.reduceAdd, Int.reduceSub, Int.reduceMul, true_imp_iff, forall_const, Nat.mul_one, Int.reduceToNat, Nat.reducePow, Int.reducePow, Bool.true_and, Bool.false_and, Bool.and_false, hf]
        refine hHX.use ?_
        cases hx0 <;> cases of
        all_goals
          simp (disch := first | assumption | omega | (simp only [List.length_append]; omega)) only [go_sem, reduceCtorEq, Nat.reduceEqDiff, Nat.reduceAdd, Nat.reduceSub, Nat.reduceMul, Nat.reduceLeDiff, Int.reduceLT, Int.reduceLE, Int.reduceEq, ↓reduceIte, Int.reduceNeg, Int.reduceAdd, Int.reduceSub, Int.reduceMul, true_imp_iff, forall_const, Nat.mul_one, Int.reduceToNat, Nat.reducePow, Int.reducePow, Bool.true_and, Bool.false_and, Bool.and_false, hf]
          refine hHA.use ?_
          simp (disch := first | assumption | omega | (simp only [List.length_append]; omega)) only [go_sem, reduceCtorEq, Nat.reduceEqDiff, Nat.reduceAdd, Nat.reduceSub, Nat.reduceMul, Nat.reduceLeDiff, Int.reduceLT, Int.reduceLE, Int.reduceEq, ↓reduceIte, Int.reduceNeg, Int.reduceAdd, Int.reduceSub, Int.reduceMul, true_imp_iff, forall_const, Nat.mul_one, Int.reduceToNat, Nat.reducePow, Int.reducePow, Bool.true_and, Bool.false_and, Bool.and_false, hf, Bool.or_true, Bool.or_false, Bool.true_or, Bool.false_or]
          refine hHB.use ?_
          simp (disch := first | assumption | omega | (simp only [List.length_append]; omega)) only [go_sem, reduceCtorEq, Nat.reduceEqDiff, Nat.reduceAdd, Nat.reduceSub, Nat.reduceMul, Nat.reduceLeDiff, Int.reduceLT, Int.reduceLE, Int.reduceEq, ↓reduceIte, Int.reduceNeg, Int.reduceAdd, Int.reduceSub, Int.reduceMul, true_imp_iff, forall_const, Nat.mul_one, Int.reduceToNat, Nat.reducePow, Int.reducePow, Bool.true_and, Bool.false_and, Bool.and_false, hf, Bool.not_true, Bool.not_false]
          refine ⟨i + 1, by omega, by omega, ?_⟩
          simp (disch := first | assumption | omega | (simp only [List.length_append]; omega)) only [go_sem, reduceCtorEq, Nat.reduceEqDiff, Nat.reduceAdd, Nat.reduceSub, Nat.reduceMul, Nat.reduceLeDiff, Int.reduceLT, Int.reduceLE, Int.reduceEq, ↓reduceIte, Int.reduceNeg, Int.reduceAdd, Int.reduceSub, Int.reduceMul, true_imp_iff, forall_const, Nat.mul_one, Int.reduceToNat, Nat.reducePow, Int.reducePow, Bool.true_and, Bool.false_and, Bool.and_false, hf]
      obtain ⟨G, hG⟩ : ∃ F, F = ACode.wp Try.prog c6_57 := ⟨_, rfl⟩
      rw [← hG] at done
      by_cases g1 : s1 ≤ u
      · by_cases g2 : u < s2
        · simp (disch := first | assumption | omega | (simp only [List.length_append]; omega)) only [go_sem, reduceCtorEq, Nat.reduceEqDiff, Nat.reduceAdd, Nat.reduceSub, Nat.reduceMul, Nat.reduceLeDiff, Int.reduceLT, Int.reduceLE, Int.reduceEq, ↓reduceIte, Int.reduceNeg, Int.reduceAdd, Int.reduceSub, Int.reduceMul, true_imp_iff, forall_const, Nat.mul_one, Int.reduceToNat, Nat.reducePow, Int.reducePow, Bool.true_and, Bool.false_and, Bool.and_false, hf, hc4, g1, g2, ←hG]
          refine done true (by simp [g1, g2]) _ ?_
          simp (disch := first | assumption | omega | (simp only [List.length_append]; omega)) only [go_sem, reduceCtorEq, Nat.reduceEqDiff, Nat.reduceAdd, Nat.reduceSub, Nat.reduceMul, Nat.reduceLeDiff, Int.reduceLT, Int.reduceLE, Int.reduceEq, ↓reduceIte, Int.reduceNeg, Int.reduceAdd, Int.reduceSub, Int.reduceMul, true_imp_iff, forall_const, Nat.mul_one, Int.reduceToNat, Nat.reducePow, Int.reducePow, Bool.true_and, Bool.false_and, Bool.and_false, hf]
        · simp (disch := first | assumption | omega | (simp only [List.length_append]; omega)) only [go_sem, reduceCtorEq, Nat.reduceEqDiff, Nat.reduceAdd, Nat.reduceSub, Nat.reduceMul, Nat.reduceLeDiff, Int.reduceLT, Int.reduceLE, Int.reduceEq, ↓reduceIte, Int.reduceNeg, Int.reduceAdd, Int.reduceSub, Int.reduceMul, true_imp_iff, forall_const, Nat.mul_one, Int.reduceToNat, Nat.reducePow, Int.reducePow, Bool.true_and, Bool.false_and, Bool.and_false, hf, hc4, g1, g2, ←hG]
          refine done false (by simp [g1, g2]) _ ?_
          simp (disch := first | assumption | omega | (simp only [List.length_append]; omega)) only [go_sem, reduceCtorEq, Nat.reduceEqDiff, Nat.reduceAdd, Nat.reduceSub, Nat.reduceMul, Nat.reduceLeDiff, Int.reduceLT, Int.reduceLE, Int.reduceEq, ↓reduceIte, Int.reduceNeg, Int.reduceAdd, Int.reduceSub, Int.reduceMul, true_imp_iff, forall_const, Nat.mul_one, Int.reduceToNat, Nat.reducePow, Int.reducePow, Bool.true_and, Bool.false_and, Bool.and_false, hf]
      · simp (disch := first | assumption | omega | (simp only [List.length_append]; omega)) only [go_sem, reduceCtorEq, Nat.reduceEqDiff, Nat.reduceAdd, Nat.reduceSub, Nat.reduceMul, Nat.reduceLeDiff, Int.reduceLT, Int.reduceLE, Int.reduceEq, ↓reduceIte, Int.reduceNeg, Int.reduceAdd, Int.reduceSub, Int.reduceMul, true_imp_iff, forall_const, Nat.mul_one, Int.reduceToNat, Nat.reducePow, Int.reducePow, Bool.true_and, Bool.false_and, Bool.and_false, hf, hc4, g1, ←hG]
        refine done false (by simp [g1]) _ ?_
        simp (disch := first | assumption | omega | (simp only [List.length_append]; omega)) only [go_sem, reduceCtorEq, Nat.reduceEqDiff, Nat.reduceAdd, Nat.reduceSub, Nat.reduceMul, Nat.reduceLeDiff, Int.reduceLT, Int.reduceLE, Int.reduceEq, ↓reduceIte, Int.reduceNeg, Int.reduceAdd, Int.reduceSub, Int.reduceMul, true_imp_iff, forall_const, Nat.mul_one, Int.reduceToNat, Nat.reducePow, Int.reducePow, Bool.true_and, Bool.false_and, Bool.and_false, hf]
    · have hlt' : ¬ (i : Int) < Z.length := by omega
      simp (disch := first | assumption | omega | (simp only [List.length_append]; omega)) only [go_sem, reduceCtorEq, Nat.reduceEqDiff, Nat.reduceAdd, Nat.reduceSub, Nat.reduceMul, Nat.reduceLeDiff, Int.reduceLT, Int.reduceLE, Int.reduceEq, ↓reduceIte, Int.reduceNeg, Int.reduceAdd, Int.reduceSub, Int.reduceMul, true_imp_iff, forall_const, Nat.mul_one, Int.reduceToNat, Nat.reducePow, Int.reducePow, Bool.true_and, Bool.false_and, Bool.and_false, hf, hlt']
      exact retC_by (Drop.refl _) (.refl _) rfl
  simp (disch := first | assumption | omega | (simp only [List.length_append]; omega)) only [go_sem, reduceCtorEq, Nat.reduceEqDiff, Nat.reduceAdd, Nat.reduceSub, Nat.reduceMul, Nat.reduceLeDiff, Int.reduceLT, Int.reduceLE, Int.reduceEq, ↓reduceIte, Int.reduceNeg, Int.reduceAdd, Int.reduceSub, Int.reduceMul, true_imp_iff, forall_const, Nat.mul_one, Int.reduceToNat, Nat.reducePow, Int.reducePow, Bool.true_and, Bool.false_and, Bool.and_false, hf, hc4, ←hF]
  refine (rising_ok M hM).use ?_
  have hrl := risingL_len M
  generalize risingL M = R at *
  obtain ⟨Z0, hZ0⟩ : ∃ Z, Z = [s1, s2, IntKind.wrap .u64 (s1 - 1), IntKind.wrap .u64 (s2 - 1), 0] ++ R := ⟨_, rfl⟩
  have hZl : Z0.length ≤ 25 := by rw [hZ0]; simp; omega
  simp (disch := first | assumption | omega | (simp only [List.length_append]; omega)) only [go_sem, reduceCtorEq, Nat.reduceEqDiff, Nat.reduceAdd, Nat.reduceSub, Nat.reduceMul, Nat.reduceLeDiff, Int.reduceLT, Int.reduceLE, Int.reduceEq, ↓reduceIte, Int.reduceNeg, Int.reduceAdd, Int.reduceSub, Int.reduceMul, true_imp_iff, forall_const, Nat.mul_one, Int.reduceToNat, Nat.reducePow, Int.reducePow, Bool.true_and, Bool.false_and, Bool.and_false, hf, hc4, u64sAV, ←hF]
  refine appG_by (σ0 := σ) (.inl ⟨rfl, rfl⟩) rfl (u64_well R) (by exact leaves_map (f := AV.int .u64) (fun _ => rfl) R) (by simp only [List.length_map, List.length_cons, List.length_nil]; omega) (by simp only [List.length_map, List.length_cons, List.length_nil]; omega) fun k' σ' hg' => ?_
  have e0 : [AV.int .u64 s1, .int .u64 s2, .int .u64 (IntKind.wrap .u64 (s1 - 1)), .int .u64 (IntKind.wrap .u64 (s2 - 1)), .int .u64 0] ++ R.map (AV.int .u64) = Z0.map (AV.int .u64) := by rw [hZ0]; rfl
  rw [e0] at hg' ⊢
  simp (disch := first | assumption | omega | (simp only [List.length_append]; omega)) only [go_sem, reduceCtorEq, Nat.reduceEqDiff, Nat.reduceAdd, Nat.reduceSub, Nat.reduceMul, Nat.reduceLeDiff, Int.reduceLT, Int.reduceLE, Int.reduceEq, ↓reduceIte, Int.reduceNeg, Int.reduceAdd, Int.reduceSub, Int.reduceMul, true_imp_iff, forall_const, Nat.mul_one, Int.reduceToNat, Nat.reducePow, Int.reducePow, Bool.true_and, Bool.false_and, Bool.and_false, hf, ←hF]
  refine wp_loop_by (fun (i : Nat) a σ1 => i ≤ X.length ∧ (a 4 = .ptr c4 0 ∧ a 7 = .sl .shr (X.map spanV) ∧ a 11 = .sl .shr (A.map spanV) ∧ a 12 = .sl .shr (B.map spanV) ∧ a 90 = .sl .shr (X.map spanV) ∧ a 91 = .int .i64 X.length ∧ a 92 = .int .i64 i) ∧
      ∃ (k : SK) (Z : List Int), Z.length = 4 * i + Z0.length ∧ a 13 = .sl k (Z.map (AV.int .u64)) ∧ Gr σ σ1 k (Z.map (AV.int .u64)).length 1)
    (fun i => X.length - i) 0 (Dr.now ⟨Nat.zero_le _, ?_, k', Z0, by omega, ?_, hg'⟩) ?_
  · simp (disch := first | assumption | omega | (simp only [List.length_append]; omega)) only [go_sem, reduceCtorEq, Nat.reduceEqDiff, Nat.reduceAdd, Nat.reduceSub, Nat.reduceMul, Nat.reduceLeDiff, Int.reduceLT, Int.reduceLE, Int.reduceEq, ↓reduceIte, Int.reduceNeg, Int.reduceAdd, Int.reduceSub, Int.reduceMul, true_imp_iff, forall_const, Nat.mul_one, Int.reduceToNat, Nat.reducePow, Int.reducePow, Bool.true_and, Bool.false_and, Bool.and_false, hf]
  · simp (disch := first | assumption | omega | (simp only [List.length_append]; omega)) only [go_sem, reduceCtorEq, Nat.reduceEqDiff, Nat.reduceAdd, Nat.reduceSub, Nat.reduceMul, Nat.reduceLeDiff, Int.reduceLT, Int.reduceLE, Int.reduceEq, ↓reduceIte, Int.reduceNeg, Int.reduceAdd, Int.reduceSub, Int.reduceMul, true_imp_iff, forall_const, Nat.mul_one, Int.reduceToNat, Nat.reducePow, Int.reducePow, Bool.true_and, Bool.false_and, Bool.and_false]
  clear hf
  rintro i a σ1 ⟨hi, hf, k, Z, hZ, h13, hg⟩
  by_cases hlt : i < X.length
  · have hlt' : (i : Int) < X.length := by omega
    have hx : X[i]? = some (X[i]'hlt) := List.getElem?_eq_getElem hlt
    obtain ⟨x, hxx⟩ : ∃ x, X[i]'hlt = x := ⟨_, rfl⟩
    rw [hxx] at hx
    have hmx := spanV_map_get hx
    simp (disch := first | assumption | omega | (simp only [List.length_append]; omega)) only [go_sem, reduceCtorEq, Nat.reduceEqDiff, Nat.reduceAdd, Nat.reduceSub, Nat.reduceMul, Nat.reduceLeDiff, Int.reduceLT, Int.reduceLE, Int.reduceEq, ↓reduceIte, Int.reduceNeg, Int.reduceAdd, Int.reduceSub, Int.reduceMul, true_imp_iff, forall_const, Nat.mul_one, Int.reduceToNat, Nat.reducePow, Int.reducePow, Bool.true_and, Bool.false_and, Bool.and_false, hf, h13, hlt', hmx, ←hF]
    refine allocC_by fun d hd => ?_
    obtain ⟨hga, hd0⟩ := hg.plus hd (q := .obj [.int .u64 x.1, .int .u64 x.2])
    simp (disch := first | assumption | omega | (simp only [List.length_append]; omega)) only [go_sem, reduceCtorEq, Nat.reduceEqDiff, Nat.reduceAdd, Nat.reduceSub, Nat.reduceMul, Nat.reduceLeDiff, Int.reduceLT, Int.reduceLE, Int.reduceEq, ↓reduceIte, Int.reduceNeg, Int.reduceAdd, Int.reduceSub, Int.reduceMul, true_imp_iff, forall_const, Nat.mul_one, Int.reduceToNat, Nat.reducePow, Int.reducePow, Bool.true_and, Bool.false_and, Bool.and_false, hf, h13, ←hF]
    refine appG_by hga (u64_well Z) rfl rfl (by simp only [List.length_map, List.length_cons, List.length_nil]; omega) (by simp only [List.length_map, List.length_cons, List.length_nil]; omega) fun k2 σ2 hg2 => ?_
    have e1 : Z.map (AV.int .u64) ++ [.int .u64 x.1, .int .u64 x.2, .int .u64 (IntKind.wrap .u64 (x.1 - 1)), .int .u64 (IntKind.wrap .u64 (x.2 - 1))] = (Z ++ [x.1, x.2, IntKind.wrap .u64 (x.1 - 1), IntKind.wrap .u64 (x.2 - 1)]).map (AV.int .u64) := by simp
    rw [e1] at hg2 ⊢
    obtain ⟨σ3, hdr, hg3⟩ := hg2.less hd0
    simp (disch := first | assumption | omega | (simp only [List.length_append]; omega)) only [go_sem, reduceCtorEq, Nat.reduceEqDiff, Nat.reduceAdd, Nat.reduceSub, Nat.reduceMul, Nat.reduceLeDiff, Int.reduceLT, Int.reduceLE, Int.reduceEq, ↓reduceIte, Int.reduceNeg, Int.reduceAdd, Int.reduceSub, Int.reduceMul, true_imp_iff, forall_const, Nat.mul_one, Int.reduceToNat, Nat.reducePow, Int.reducePow, Bool.true_and, Bool.false_and, Bool.and_false, hf, ←hF]
    refine ⟨i + 1, by dsimp only; omega, Dr.drop hdr ⟨by omega, ?_, k2, Z ++ [x.1, x.2, IntKind.wrap .u64 (x.1 - 1), IntKind.wrap .u64 (x.2 - 1)], by simp; omega, ?_, by simpa using hg3⟩⟩
    · simp (disch := first | assumption | omega | (simp only [List.length_append]; omega)) only [go_sem, reduceCtorEq, Nat.reduceEqDiff, Nat.reduceAdd, Nat.reduceSub, Nat.reduceMul, Nat.reduceLeDiff, Int.reduceLT, Int.reduceLE, Int.reduceEq, ↓reduceIte, Int.reduceNeg, Int.reduceAdd, Int.reduceSub, Int.reduceMul, true_imp_iff, forall_const, Nat.mul_one, Int.reduceToNat, Nat.reducePow, Int.reducePow, Bool.true_and, Bool.false_and, Bool.and_false, hf]
    · simp (disch := first | assumption | omega | (simp only [List.length_append]; omega)) only [go_sem, reduceCtorEq, Nat.reduceEqDiff, Nat.reduceAdd, Nat.reduceSub, Nat.reduceMul, Nat.reduceLeDiff, Int.reduceLT, Int.reduceLE, Int.reduceEq, ↓reduceIte, Int.reduceNeg, Int.reduceAdd, Int.reduceSub, Int.reduceMul, true_imp_iff, forall_const, Nat.mul_one, Int.reduceToNat, Nat.reducePow, Int.reducePow, Bool.true_and, Bool.false_and, Bool.and_false]
  · have hlt' : ¬ (i : Int) < X.length := by omega
    simp (disch := first | assumption | omega | (simp only [List.length_append]; omega)) only [go_sem, reduceCtorEq, Nat.reduceEqDiff, Nat.reduceAdd, Nat.reduceSub, Nat.reduceMul, Nat.reduceLeDiff, Int.reduceLT, Int.reduceLE, Int.reduceEq, ↓reduceIte, Int.reduceNeg, Int.reduceAdd, Int.reduceSub, Int.reduceMul, true_imp_iff, forall_const, Nat.mul_one, Int.reduceToNat, Nat.reducePow, Int.reducePow, Bool.true_and, Bool.false_and, Bool.and_false, hf, hlt', ←hF]
    refine asked _ σ1 k Z (by omega) (hg.at hc4) ?_ ?_
    · simp (disch := first | assumption | omega | (simp only [List.length_append]; omega)) only [go_sem, reduceCtorEq, Nat.reduceEqDiff, Nat.reduceAdd, Nat.reduceSub, Nat.reduceMul, Nat.reduceLeDiff, Int.reduceLT, Int.reduceLE, Int.reduceEq, ↓reduceIte, Int.reduceNeg, Int.reduceAdd, Int.reduceSub, Int.reduceMul, true_imp_iff, forall_const, Nat.mul_one, Int.reduceToNat, Nat.reducePow, Int.reducePow, Bool.true_and, Bool.false_and, Bool.and_false, hf]
    · simp (disch := first | assumption | omega | (simp only [List.length_append]; omega)) only [go_sem, reduceCtorEq, Nat.reduceEqDiff, Nat.reduceAdd, Nat.reduceSub, Nat.reduceMul, Nat.reduceLeDiff, Int.reduceLT, Int.reduceLE, Int.reduceEq, ↓reduceIte, Int.reduceNeg, Int.reduceAdd, Int.reduceSub, Int.reduceMul, true_imp_iff, forall_const, Nat.mul_one, Int.reduceToNat, Nat.reducePow, Int.reducePow, Bool.true_and, Bool.false_and, Bool.and_false, h13]

set_option maxHeartbeats 2000000 in
theorem spans_rest (X : List (Int × Int)) (hX : X.length ≤ 10) (hX0 : ∀ p ∈ X, 0 ≤ p.1) (s1 s2 : Int) (hs0 : 0 ≤ s1) (M : List Int) (hM : M.length ≤ 9223372036854775807) (c4 : Nat) (σ : ASt) (hc4 : σ c4 = some (.obj [.int .u64 s1, .int .u64 s2]))
    (a : AFr) (h2 : a 2 = .sl .shr (M.map (AV.int .u64))) (h4 : a 4 = .ptr c4 0) (h7 : a 7 = .sl .shr (X.map spanV)) : ACode.wp Try.prog c6_76 (RetQ [.t 6] fun v _ => v = .bool true) a σ := by
  obtain ⟨F, hF⟩ : ∃ F, F = ACode.wp Try.prog c6_73 := ⟨_, rfl⟩
  simp (disch := first | assumption | omega | (simp only [List.length_append]; omega)) only [go_sem, reduceCtorEq, Nat.reduceEqDiff, Nat.reduceAdd, Nat.reduceSub, Nat.reduceMul, Nat.reduceLeDiff, Int.reduceLT, Int.reduceLE, Int.reduceEq, ↓reduceIte, Int.reduceNeg, Int.reduceAdd, Int.reduceSub, Int.reduceMul, true_imp_iff, forall_const, Nat.mul_one, Int.reduceToNat, Nat.reducePow, Int.reducePow, Bool.true_and, Bool.false_and, Bool.and_false, h7, ←hF]
  refine (told_ok X (by omega)).use ?_
  simp (disch := first | assumption | omega | (simp only [List.length_append]; omega)) only [go_sem, reduceCtorEq, Nat.reduceEqDiff, Nat.reduceAdd, Nat.reduceSub, Nat.reduceMul, Nat.reduceLeDiff, Int.reduceLT, Int.reduceLE, Int.reduceEq, ↓reduceIte, Int.reduceNeg, Int.reduceAdd, Int.reduceSub, Int.reduceMul, true_imp_iff, forall_const, Nat.mul_one, Int.reduceToNat, Nat.reducePow, Int.reducePow, Bool.true_and, Bool.false_and, Bool.and_false, ←hF]
  refine (refRight_ok X (by omega)).use ?_
  obtain ⟨rb, hrb⟩ : ∃ r, rightB X = r := ⟨_, rfl⟩
  rw [hrb]
  cases rb
  · simp (disch := first | assumption | omega | (simp only [List.length_append]; omega)) only [go_sem, reduceCtorEq, Nat.reduceEqDiff, Nat.reduceAdd, Nat.reduceSub, Nat.reduceMul, Nat.reduceLeDiff, Int.reduceLT, Int.reduceLE, Int.reduceEq, ↓reduceIte, Int.reduceNeg, Int.reduceAdd, Int.reduceSub, Int.reduceMul, true_imp_iff, forall_const, Nat.mul_one, Int.reduceToNat, Nat.reducePow, Int.reducePow, Bool.true_and, Bool.false_and, Bool.and_false, ←hF]
    refine awake_ok.use ?_
    simp (disch := first | assumption | omega | (simp only [List.length_append]; omega)) only [go_sem, reduceCtorEq, Nat.reduceEqDiff, Nat.reduceAdd, Nat.reduceSub, Nat.reduceMul, Nat.reduceLeDiff, Int.reduceLT, Int.reduceLE, Int.reduceEq, ↓reduceIte, Int.reduceNeg, Int.reduceAdd, Int.reduceSub, Int.reduceMul, true_imp_iff, forall_const, Nat.mul_one, Int.reduceToNat, Nat.reducePow, Int.reducePow, Bool.true_and, Bool.false_and, Bool.and_false, ←hF]
    exact retC_by (Drop.refl _) (.refl _) rfl
  have hN := right_iff.1 hrb
  obtain ⟨A, hA⟩ : ∃ A, withL X (s1, s2) = A := ⟨_, rfl⟩
  obtain ⟨B, hB⟩ : ∃ B, withoutL X (s1, s2) = B := ⟨_, rfl⟩
  have hAN : Norm A := by rw [← hA]; exact withL_norm _ hN (-1) (fun p hp => by have := hX0 p hp; omega) (by dsimp only; omega)
  have hBN : Norm B := by rw [← hB]; exact withoutL_norm _ hN
  have hAl : A.length ≤ 11 := by have := withL_len X (s1, s2); rw [hA] at this; omega
  have hBl : B.length ≤ 20 := by have := withoutL_len X (s1, s2); rw [hB] at this; omega
  have hw := With_ok X (s1, s2) (by omega)
  have hwo := Without_ok X (s1, s2) (by omega)
  rw [hA] at hw
  rw [hB] at hwo
  have hw' : Pure Try.prog 19 [.sl .shr (X.map spanV), .agg [.int .u64 s1, .int .u64 s2]] (.sl .shr (A.map spanV)) := hw
  have hwo' : Pure Try.prog 23 [.sl .shr (X.map spanV), .agg [.int .u64 s1, .int .u64 s2]] (.sl .shr (B.map spanV)) := hwo
  simp (disch := first | assumption | omega | (simp only [List.length_append]; omega)) only [go_sem, reduceCtorEq, Nat.reduceEqDiff, Nat.reduceAdd, Nat.reduceSub, Nat.reduceMul, Nat.reduceLeDiff, Int.reduceLT, Int.reduceLE, Int.reduceEq, ↓reduceIte, Int.reduceNeg, Int.reduceAdd, Int.reduceSub, Int.reduceMul, true_imp_iff, forall_const, Nat.mul_one, Int.reduceToNat, Nat.reducePow, Int.reducePow, Bool.true_and, Bool.false_and, Bool.and_false, h7, h4, hc4, ←hF]
  refine hw'.use ?_
  simp (disch := first | assumption | omega | (simp only [List.length_append]; omega)) only [go_sem, reduceCtorEq, Nat.reduceEqDiff, Nat.reduceAdd, Nat.reduceSub, Nat.reduceMul, Nat.reduceLeDiff, Int.reduceLT, Int.reduceLE, Int.reduceEq, ↓reduceIte, Int.reduceNeg, Int.reduceAdd, Int.reduceSub, Int.reduceMul, true_imp_iff, forall_const, Nat.mul_one, Int.reduceToNat, Nat.reducePow, Int.reducePow, Bool.true_and, Bool.false_and, Bool.and_false, h4, hc4, ←hF]
  refine hwo'.use ?_
  simp (disch := first | assumption | omega | (simp only [List.length_append]; omega)) only [go_sem, reduceCtorEq, Nat.reduceEqDiff, Nat.reduceAdd, Nat.reduceSub, Nat.reduceMul, Nat.reduceLeDiff, Int.reduceLT, Int.reduceLE, Int.reduceEq, ↓reduceIte, Int.reduceNeg, Int.reduceAdd, Int.reduceSub, Int.reduceMul, true_imp_iff, forall_const, Nat.mul_one, Int.reduceToNat, Nat.reducePow, Int.reducePow, Bool.true_and, Bool.false_and, Bool.and_false, ←hF]
  refine awake_ok.use ?_
  simp (disch := first | assumption | omega | (simp only [List.length_append]; omega)) only [go_sem, reduceCtorEq, Nat.reduceEqDiff, Nat.reduceAdd, Nat.reduceSub, Nat.reduceMul, Nat.reduceLeDiff, Int.reduceLT, Int.reduceLE, Int.reduceEq, ↓reduceIte, Int.reduceNeg, Int.reduceAdd, Int.reduceSub, Int.reduceMul, true_imp_iff, forall_const, Nat.mul_one, Int.reduceToNat, Nat.reducePow, Int.reducePow, Bool.true_and, Bool.false_and, Bool.and_false, ←hF]
  refine (told_ok A (by omega)).use ?_
  simp (disch := first | assumption | omega | (simp only [List.length_append]; omega)) only [go_sem, reduceCtorEq, Nat.reduceEqDiff, Nat.reduceAdd, Nat.reduceSub, Nat.reduceMul, Nat.reduceLeDiff, Int.reduceLT, Int.reduceLE, Int.reduceEq, ↓reduceIte, Int.reduceNeg, Int.reduceAdd, Int.reduceSub, Int.reduceMul, true_imp_iff, forall_const, Nat.mul_one, Int.reduceToNat, Nat.reducePow, Int.reducePow, Bool.true_and, Bool.false_and, Bool.and_false, ←hF]
  refine (refRight_ok A (by omega)).use ?_
  rw [right_iff.2 hAN]
  simp (disch := first | assumption | omega | (simp only [List.length_append]; omega)) only [go_sem, reduceCtorEq, Nat.reduceEqDiff, Nat.reduceAdd, Nat.reduceSub, Nat.reduceMul, Nat.reduceLeDiff, Int.reduceLT, Int.reduceLE, Int.reduceEq, ↓reduceIte, Int.reduceNeg, Int.reduceAdd, Int.reduceSub, Int.reduceMul, true_imp_iff, forall_const, Nat.mul_one, Int.reduceToNat, Nat.reducePow, Int.reducePow, Bool.true_and, Bool.false_and, Bool.and_false, ←hF]
  refine (told_ok B (by omega)).use ?_
  simp (disch := first | assumption | omega | (simp only [List.length_append]; omega)) only [go_sem, reduceCtorEq, Nat.reduceEqDiff, Nat.reduceAdd, Nat.reduceSub, Nat.reduceMul, Nat.reduceLeDiff, Int.reduceLT, Int.reduceLE, Int.reduceEq, ↓reduceIte, Int.reduceNeg, Int.reduceAdd, Int.reduceSub, Int.reduceMul, true_imp_iff, forall_const, Nat.mul_one, Int.reduceToNat, Nat.reducePow, Int.reducePow, Bool.true_and, Bool.false_and, Bool.and_false, ←hF]
  refine (refRight_ok B (by omega)).use ?_
  rw [right_iff.2 hBN]
  simp (disch := first | assumption | omega | (simp only [List.length_append]; omega)) only [go_sem, reduceCtorEq, Nat.reduceEqDiff, Nat.reduceAdd, Nat.reduceSub, Nat.reduceMul, Nat.reduceLeDiff, Int.reduceLT, Int.reduceLE, Int.reduceEq, ↓reduceIte, Int.reduceNeg, Int.reduceAdd, Int.reduceSub, Int.reduceMul, true_imp_iff, forall_const, Nat.mul_one, Int.reduceToNat, Nat.reducePow, Int.reducePow, Bool.true_and, Bool.false_and, Bool.and_false, ←hF]
  rw [hF]
  refine spans_ask X hX hN s1 s2 M hM c4 σ hc4 A B hA hB hAN hBN hAl hBl _ ?_
  simp (disch := first | assumption | omega | (simp only [List.length_append]; omega)) only [go_sem, reduceCtorEq, Nat.reduceEqDiff, Nat.reduceAdd, Nat.reduceSub, Nat.reduceMul, Nat.reduceLeDiff, Int.reduceLT, Int.reduceLE, Int.reduceEq, ↓reduceIte, Int.reduceNeg, Int.reduceAdd, Int.reduceSub, Int.reduceMul, true_imp_iff, forall_const, Nat.mul_one, Int.reduceToNat, Nat.reducePow, Int.reducePow, Bool.true_and, Bool.false_and, Bool.and_false, h2, h4, h7]

theorem splice_same {cs vs : List AV} {o : Nat} (h : (cs.drop o).take vs.length = vs) (hfit : o + vs.length ≤ cs.length) : cs.take o ++ vs ++ cs.drop (o + vs.length) = cs := by
  rw [← h, List.length_take, List.length_drop, Nat.min_eq_left (by omega), List.append_assoc, ← List.drop_drop, List.take_append_drop, List.take_append_drop]

set_option maxHeartbeats 2000000 in
theorem VintSpans_any (L : List Int) (hL : L.length ≤ 9223372036854775807) (hL2 : ∀ x ∈ L, 0 ≤ x ∧ x ≤ 18446744073709551615) (s1 s2 : Int) (hs0 : 0 ≤ s1) (M : List Int) (hM : M.length ≤ 9223372036854775807) (σ : ASt) :
    ACalls Try.prog 6 [.sl .shr (L.map (AV.int .u64)), .agg [.int .u64 s1, .int .u64 s2], .sl .shr (M.map (AV.int .u64))] σ fun v _ => v = .bool true := by
  refine a6 (by simp) ?_
  obtain ⟨F, hF⟩ : ∃ F, F = ACode.wp Try.prog c6_76 := ⟨_, rfl⟩
  have hXl := spansL_len L
  have hXr := spansL_rises hL2
  have hown := spans_own L hL
  have hX0 : ∀ p ∈ spansL L, 0 ≤ p.1 := fun p hp => by
    obtain ⟨i, hi, rfl⟩ := List.mem_iff_getElem.1 hp
    exact (flat_at hXr (List.getElem?_eq_getElem hi)).1
  generalize spansL L = X at *
  simp (disch := first | assumption | omega | (simp only [List.length_append]; omega)) only [go_sem, reduceCtorEq, Nat.reduceEqDiff, Nat.reduceAdd, Nat.reduceSub, Nat.reduceMul, Nat.reduceLeDiff, Int.reduceLT, Int.reduceLE, Int.reduceEq, ↓reduceIte, Int.reduceNeg, Int.reduceAdd, Int.reduceSub, Int.reduceMul, true_imp_iff, forall_const, Nat.mul_one, Int.reduceToNat, Nat.reducePow, Int.reducePow, Bool.true_and, Bool.false_and, Bool.and_false, ←hF]
  refine boxC_by rfl fun c4 hc4 => ?_
  have rest : ∀ (a : AFr) (σ1 : ASt), σ1 c4 = some (.obj [.int .u64 s1, .int .u64 s2]) → (a 2 = .sl .shr (M.map (AV.int .u64)) ∧ a 4 = .ptr c4 0 ∧ a 7 = .sl .shr (X.map spanV)) → F (RetQ [.t 6] fun v _ => v = .bool true) a σ1 := by
    intro a σ1 h1 hf
    rw [hF]
    exact spans_rest X hXl hX0 s1 s2 hs0 M hM c4 σ1 h1 a hf.1 hf.2.1 hf.2.2
  simp (disch := first | assumption | omega | (simp only [List.length_append]; omega)) only [go_sem, reduceCtorEq, Nat.reduceEqDiff, Nat.reduceAdd, Nat.reduceSub, Nat.reduceMul, Nat.reduceLeDiff, Int.reduceLT, Int.reduceLE, Int.reduceEq, ↓reduceIte, Int.reduceNeg, Int.reduceAdd, Int.reduceSub, Int.reduceMul, true_imp_iff, forall_const, Nat.mul_one, Int.reduceToNat, Nat.reducePow, Int.reducePow, Bool.true_and, Bool.false_and, Bool.and_false, ←hF]
  refine (hown _).mono ?_
  intro v σ1 ho
  rcases ho with ⟨hnil, rfl, rfl⟩ | ⟨b, c, rst, rfl, hcap, hrst, hb0, rfl⟩
  · have hX : X = [] := by simpa using hnil
    subst hX
    simp (disch := first | assumption | omega | (simp only [List.length_append]; omega)) only [go_sem, reduceCtorEq, Nat.reduceEqDiff, Nat.reduceAdd, Nat.reduceSub, Nat.reduceMul, Nat.reduceLeDiff, Int.reduceLT, Int.reduceLE, Int.reduceEq, ↓reduceIte, Int.reduceNeg, Int.reduceAdd, Int.reduceSub, Int.reduceMul, true_imp_iff, forall_const, Nat.mul_one, Int.reduceToNat, Nat.reducePow, Int.reducePow, Bool.true_and, Bool.false_and, Bool.and_false, ←hF]
    refine ACalls.shr (args' := [.sl .shr []]) rfl ?_
    refine (told_ok [] (by simp)).use ?_
    simp (disch := first | assumption | omega | (simp only [List.length_append]; omega)) only [go_sem, reduceCtorEq, Nat.reduceEqDiff, Nat.reduceAdd, Nat.reduceSub, Nat.reduceMul, Nat.reduceLeDiff, Int.reduceLT, Int.reduceLE, Int.reduceEq, ↓reduceIte, Int.reduceNeg, Int.reduceAdd, Int.reduceSub, Int.reduceMul, true_imp_iff, forall_const, Nat.mul_one, Int.reduceToNat, Nat.reducePow, Int.reducePow, Bool.true_and, Bool.false_and, Bool.and_false, spansV, ←hF]
    refine wp_loop_on (fun (_ : Unit) a σ' => (a 2 = .sl .shr (M.map (AV.int .u64)) ∧ a 4 = .ptr c4 0 ∧ a 7 = .sl .shr [] ∧ a 27 = .int .i64 0 ∧ a 28 = .int .i64 0) ∧ σ' = σ.set c4 (some (.obj [.int .u64 s1, .int .u64 s2]))) (fun _ => 0) () ⟨?_, rfl⟩ ?_
    · simp (disch := first | assumption | omega | (simp only [List.length_append]; omega)) only [go_sem, reduceCtorEq, Nat.reduceEqDiff, Nat.reduceAdd, Nat.reduceSub, Nat.reduceMul, Nat.reduceLeDiff, Int.reduceLT, Int.reduceLE, Int.reduceEq, ↓reduceIte, Int.reduceNeg, Int.reduceAdd, Int.reduceSub, Int.reduceMul, true_imp_iff, forall_const, Nat.mul_one, Int.reduceToNat, Nat.reducePow, Int.reducePow, Bool.true_and, Bool.false_and, Bool.and_false]
    rintro ⟨⟩ a σ1 ⟨hf, rfl⟩
    simp (disch := first | assumption | omega | (simp only [List.length_append]; omega)) only [go_sem, reduceCtorEq, Nat.reduceEqDiff, Nat.reduceAdd, Nat.reduceSub, Nat.reduceMul, Nat.reduceLeDiff, Int.reduceLT, Int.reduceLE, Int.reduceEq, ↓reduceIte, Int.reduceNeg, Int.reduceAdd, Int.reduceSub, Int.reduceMul, true_imp_iff, forall_const, Nat.mul_one, Int.reduceToNat, Nat.reducePow, Int.reducePow, Bool.true_and, Bool.false_and, Bool.and_false, hf, ←hF]
    refine rest _ _ (ASt.set_same _ _ _) ?_
    simp (disch := first | assumption | omega | (simp only [List.length_append]; omega)) only [go_sem, reduceCtorEq, Nat.reduceEqDiff, Nat.reduceAdd, Nat.reduceSub, Nat.reduceMul, Nat.reduceLeDiff, Int.reduceLT, Int.reduceLE, Int.reduceEq, ↓reduceIte, Int.reduceNeg, Int.reduceAdd, Int.reduceSub, Int.reduceMul, true_imp_iff, forall_const, Nat.mul_one, Int.reduceToNat, Nat.reducePow, Int.reducePow, Bool.true_and, Bool.false_and, Bool.and_false, hf]
  · obtain ⟨m1, m2, hb⟩ := set_none hb0
    rw [List.length_map] at hcap hrst
    obtain ⟨cs, hcs⟩ : ∃ cs, (X.map spanV).flatMap AV.cells ++ rst = cs := ⟨_, rfl⟩
    have hfl := flat_cells_len X
    have hcsl : X.length * 2 ≤ cs.length := by rw [← hcs, List.length_append, hfl]; omega
    obtain ⟨σC, hσC⟩ : ∃ s, σ.set c4 (some (.obj [.int .u64 s1, .int .u64 s2])) = s := ⟨_, rfl⟩
    have hC4 : σC c4 = some (.obj [.int .u64 s1, .int .u64 s2]) := by rw [← hσC]; exact ASt.set_same _ _ _
    have hCb : σC b = none := by rw [← hσC]; exact hb0
    rw [hσC]
    have hbB : σC.set b (some (.obj ((X.map spanV).flatMap AV.cells ++ rst))) b = some (.obj ((X.map spanV).flatMap AV.cells ++ rst)) := ASt.set_same _ _ _
    have htold := told_own X (by omega) b c rst _ hbB
    rw [hcs] at htold ⊢
    rw [List.length_map]
    simp (disch := first | assumption | omega | (simp only [List.length_append]; omega)) only [go_sem, reduceCtorEq, Nat.reduceEqDiff, Nat.reduceAdd, Nat.reduceSub, Nat.reduceMul, Nat.reduceLeDiff, Int.reduceLT, Int.reduceLE, Int.reduceEq, ↓reduceIte, Int.reduceNeg, Int.reduceAdd, Int.reduceSub, Int.reduceMul, true_imp_iff, forall_const, Nat.mul_one, Int.reduceToNat, Nat.reducePow, Int.reducePow, Bool.true_and, Bool.false_and, Bool.and_false, ←hF]
    refine htold.mono ?_
    rintro v σ2 ⟨rfl, rfl⟩
    have hsl : slV (false, 2) (.msl b 0 X.length c) 0 0 = some (.msl b 0 0 c) := by simp [slV]
    simp (disch := first | assumption | omega | (simp only [List.length_append]; omega)) only [go_sem, reduceCtorEq, Nat.reduceEqDiff, Nat.reduceAdd, Nat.reduceSub, Nat.reduceMul, Nat.reduceLeDiff, Int.reduceLT, Int.reduceLE, Int.reduceEq, ↓reduceIte, Int.reduceNeg, Int.reduceAdd, Int.reduceSub, Int.reduceMul, true_imp_iff, forall_const, Nat.mul_one, Int.reduceToNat, Nat.reducePow, Int.reducePow, Bool.true_and, Bool.false_and, Bool.and_false, spansV, hsl, ←hF]
    by_cases hX1 : X.length = 0
    · obtain rfl : X = [] := List.eq_nil_of_length_eq_zero hX1
      refine wp_loop_by (fun (_ : Unit) a σ' => (a 2 = .sl .shr (M.map (AV.int .u64)) ∧ a 4 = .ptr c4 0 ∧ a 7 = .sl .shr [] ∧ a 27 = .int .i64 0 ∧ a 28 = .int .i64 0) ∧ σ' = σC) (fun _ => 0) ()
        (Dr.freeze (t := 7) (b := b) (o := 0) (n := 0) (c := c) (s := 2) (cs := cs) (xs := []) ?_ (ASt.set_same _ _ _) hCb (Drop.set hCb) rfl (Nat.zero_le _) (by simp) (by simp) ⟨?_, rfl⟩) ?_
      · simp (disch := first | assumption | omega | (simp only [List.length_append]; omega)) only [go_sem, reduceCtorEq, Nat.reduceEqDiff, Nat.reduceAdd, Nat.reduceSub, Nat.reduceMul, Nat.reduceLeDiff, Int.reduceLT, Int.reduceLE, Int.reduceEq, ↓reduceIte, Int.reduceNeg, Int.reduceAdd, Int.reduceSub, Int.reduceMul, true_imp_iff, forall_const, Nat.mul_one, Int.reduceToNat, Nat.reducePow, Int.reducePow, Bool.true_and, Bool.false_and, Bool.and_false]
      · simp (disch := first | assumption | omega | (simp only [List.length_append]; omega)) only [go_sem, reduceCtorEq, Nat.reduceEqDiff, Nat.reduceAdd, Nat.reduceSub, Nat.reduceMul, Nat.reduceLeDiff, Int.reduceLT, Int.reduceLE, Int.reduceEq, ↓reduceIte, Int.reduceNeg, Int.reduceAdd, Int.reduceSub, Int.reduceMul, true_imp_iff, forall_const, Nat.mul_one, Int.reduceToNat, Nat.reducePow, Int.reducePow, Bool.true_and, Bool.false_and, Bool.and_false]
      rintro ⟨⟩ a σ1 ⟨hf, rfl⟩
      simp (disch := first | assumption | omega | (simp only [List.length_append]; omega)) only [go_sem, reduceCtorEq, Nat.reduceEqDiff, Nat.reduceAdd, Nat.reduceSub, Nat.reduceMul, Nat.reduceLeDiff, Int.reduceLT, Int.reduceLE, Int.reduceEq, ↓reduceIte, Int.reduceNeg, Int.reduceAdd, Int.reduceSub, Int.reduceMul, true_imp_iff, forall_const, Nat.mul_one, Int.reduceToNat, Nat.reducePow, Int.reducePow, Bool.true_and, Bool.false_and, Bool.and_false, hf, ←hF]
      refine rest _ _ hC4 ?_
      simp (disch := first | assumption | omega | (simp only [List.length_append]; omega)) only [go_sem, reduceCtorEq, Nat.reduceEqDiff, Nat.reduceAdd, Nat.reduceSub, Nat.reduceMul, Nat.reduceLeDiff, Int.reduceLT, Int.reduceLE, Int.reduceEq, ↓reduceIte, Int.reduceNeg, Int.reduceAdd, Int.reduceSub, Int.reduceMul, true_imp_iff, forall_const, Nat.mul_one, Int.reduceToNat, Nat.reducePow, Int.reducePow, Bool.true_and, Bool.false_and, Bool.and_false, hf]
    refine wp_loop_by (fun (i : Nat) a σ' => (i ≤ X.length ∧ (a 2 = .sl .shr (M.map (AV.int .u64)) ∧ a 4 = .ptr c4 0 ∧ a 8 = .sl .shr (X.map spanV) ∧ a 26 = .sl .shr (X.map spanV) ∧ a 27 = .int .i64 X.length ∧ a 28 = .int .i64 i)) ∧
        ((i < X.length ∧ a 7 = .msl b 0 i c ∧ σ' = σC.set b (some (.obj cs))) ∨ (i = X.length ∧ a 7 = .sl .shr (X.map spanV) ∧ σ' = σC)))
      (fun i => X.length - i) 0 (Dr.now ⟨⟨Nat.zero_le _, ?_⟩, .inl ⟨by omega, ?_, rfl⟩⟩) ?_
    · simp (disch := first | assumption | omega | (simp only [List.length_append]; omega)) only [go_sem, reduceCtorEq, Nat.reduceEqDiff, Nat.reduceAdd, Nat.reduceSub, Nat.reduceMul, Nat.reduceLeDiff, Int.reduceLT, Int.reduceLE, Int.reduceEq, ↓reduceIte, Int.reduceNeg, Int.reduceAdd, Int.reduceSub, Int.reduceMul, true_imp_iff, forall_const, Nat.mul_one, Int.reduceToNat, Nat.reducePow, Int.reducePow, Bool.true_and, Bool.false_and, Bool.and_false]
    · simp (disch := first | assumption | omega | (simp only [List.length_append]; omega)) only [go_sem, reduceCtorEq, Nat.reduceEqDiff, Nat.reduceAdd, Nat.reduceSub, Nat.reduceMul, Nat.reduceLeDiff, Int.reduceLT, Int.reduceLE, Int.reduceEq, ↓reduceIte, Int.reduceNeg, Int.reduceAdd, Int.reduceSub, Int.reduceMul, true_imp_iff, forall_const, Nat.mul_one, Int.reduceToNat, Nat.reducePow, Int.reducePow, Bool.true_and, Bool.false_and, Bool.and_false]
    rintro i a σ1 ⟨⟨hi, hf⟩, hcase⟩
    rcases hcase with ⟨hlt, h7, rfl⟩ | ⟨rfl, h7, rfl⟩
    · have hlt' : (i : Int) < X.length := by omega
      have hx : X[i]? = some (X[i]'hlt) := List.getElem?_eq_getElem hlt
      obtain ⟨x, hxx⟩ : ∃ x, X[i]'hlt = x := ⟨_, rfl⟩
      rw [hxx] at hx
      have hmx := spanV_map_get hx
      have hfc := flat_cells (rest := rst) hx
      rw [hcs] at hfc
      -- behind the round
      have next : ∀ (a' : AFr) (d : Nat) (q : Role), (σC.set b (some (.obj cs))) d = none → (a' 2 = .sl .shr (M.map (AV.int .u64)) ∧ a' 4 = .ptr c4 0 ∧ a' 8 = .sl .shr (X.map spanV) ∧ a' 26 = .sl .shr (X.map spanV) ∧ a' 27 = .int .i64 X.length ∧ a' 28 = .int .i64 ((i : Int) + 1) ∧ a' 7 = .msl b 0 (i + 1) c) →
          Again (fun (i : Nat) a σ' => (i ≤ X.length ∧ (a 2 = .sl .shr (M.map (AV.int .u64)) ∧ a 4 = .ptr c4 0 ∧ a 8 = .sl .shr (X.map spanV) ∧ a 26 = .sl .shr (X.map spanV) ∧ a 27 = .int .i64 X.length ∧ a 28 = .int .i64 i)) ∧
            ((i < X.length ∧ a 7 = .msl b 0 i c ∧ σ' = σC.set b (some (.obj cs))) ∨ (i = X.length ∧ a 7 = .sl .shr (X.map spanV) ∧ σ' = σC))) (fun i => X.length - i) i a' ((σC.set b (some (.obj cs))).set d (some q)) := by
        intro a' d q hd hf'
        obtain ⟨k1, k2, hd0⟩ := set_none hd
        by_cases hlast : i + 1 < X.length
        · refine ⟨i + 1, by dsimp only; omega, Dr.lay hd ⟨⟨by omega, ?_⟩, .inl ⟨hlast, ?_, rfl⟩⟩⟩
          · simp (disch := first | assumption | omega | (simp only [List.length_append]; omega)) only [go_sem, reduceCtorEq, Nat.reduceEqDiff, Nat.reduceAdd, Nat.reduceSub, Nat.reduceMul, Nat.reduceLeDiff, Int.reduceLT, Int.reduceLE, Int.reduceEq, ↓reduceIte, Int.reduceNeg, Int.reduceAdd, Int.reduceSub, Int.reduceMul, true_imp_iff, forall_const, Nat.mul_one, Int.reduceToNat, Nat.reducePow, Int.reducePow, Bool.true_and, Bool.false_and, Bool.and_false, hf']
          · simp (disch := first | assumption | omega | (simp only [List.length_append]; omega)) only [go_sem, reduceCtorEq, Nat.reduceEqDiff, Nat.reduceAdd, Nat.reduceSub, Nat.reduceMul, Nat.reduceLeDiff, Int.reduceLT, Int.reduceLE, Int.reduceEq, ↓reduceIte, Int.reduceNeg, Int.reduceAdd, Int.reduceSub, Int.reduceMul, true_imp_iff, forall_const, Nat.mul_one, Int.reduceToNat, Nat.reducePow, Int.reducePow, Bool.true_and, Bool.false_and, Bool.and_false, hf']
        · have hie : i + 1 = X.length := by omega
          refine ⟨i + 1, by dsimp only; omega, Dr.freeze (t := 7) (b := b) (o := 0) (n := X.length) (c := c) (s := 2) (cs := cs) (xs := X.map spanV) (by rw [hf'.2.2.2.2.2.2, hie]) (by rw [ASt.set_ne k2, ASt.set_same]) hCb ((Drop.set hd).trans (Drop.set hCb)) (by simp) hcap (fun y hy => by obtain ⟨p, _, rfl⟩ := List.mem_map.1 hy; rfl) ?_ ⟨⟨by omega, ?_⟩, .inr ⟨hie, ?_, rfl⟩⟩⟩
          · rw [← hcs, List.drop_zero, ← hfl]
            simp
          · simp (disch := first | assumption | omega | (simp only [List.length_append]; omega)) only [go_sem, reduceCtorEq, Nat.reduceEqDiff, Nat.reduceAdd, Nat.reduceSub, Nat.reduceMul, Nat.reduceLeDiff, Int.reduceLT, Int.reduceLE, Int.reduceEq, ↓reduceIte, Int.reduceNeg, Int.reduceAdd, Int.reduceSub, Int.reduceMul, true_imp_iff, forall_const, Nat.mul_one, Int.reduceToNat, Nat.reducePow, Int.reducePow, Bool.true_and, Bool.false_and, Bool.and_false, hf']
          · simp (disch := first | assumption | omega | (simp only [List.length_append]; omega)) only [go_sem, reduceCtorEq, Nat.reduceEqDiff, Nat.reduceAdd, Nat.reduceSub, Nat.reduceMul, Nat.reduceLeDiff, Int.reduceLT, Int.reduceLE, Int.reduceEq, ↓reduceIte, Int.reduceNeg, Int.reduceAdd, Int.reduceSub, Int.reduceMul, true_imp_iff, forall_const, Nat.mul_one, Int.reduceToNat, Nat.reducePow, Int.reducePow, Bool.true_and, Bool.false_and, Bool.and_false]
      have app : ∀ (K : AV → ASt → Prop) (d : Nat) (q : Role), (σC.set b (some (.obj cs))) d = none → K (.msl b 0 (i + 1) c) ((σC.set b (some (.obj cs))).set d (some q)) → ∀ (z : List AV) (k2 : SK),
          appC 2 16 z (.msl b 0 i c) (.sl k2 [.agg [.int .u64 x.1, .int .u64 x.2]]) ((σC.set b (some (.obj cs))).set d (some q)) K := by
        intro K d q hd hK z k2
        obtain ⟨k1, k3, hd0⟩ := set_none hd
        have hbd : ((σC.set b (some (.obj cs))).set d (some q)) b = some (.obj cs) := by rw [ASt.set_ne k3, ASt.set_same]
        rw [appC_msl, hbd]
        refine appM_by rfl rfl (by simp only [List.length_cons, List.length_nil]; omega) (by simp only [List.length_cons, List.length_nil]; omega) (by omega) (fun _ => ⟨by simp only [List.length_cons, List.length_nil]; omega, ?_⟩) (fun hg => by simp only [List.length_cons, List.length_nil] at hg; omega)
        have e : splice cs (0 + i * 2) ([AV.agg [.int .u64 x.1, .int .u64 x.2]].length * 2) ([AV.agg [.int .u64 x.1, .int .u64 x.2]].flatMap AV.cells) = cs := by
          unfold splice
          exact splice_same (vs := [.int .u64 x.1, .int .u64 x.2]) (by rw [Nat.zero_add]; exact hfc) (by simp only [List.length_cons, List.length_nil]; omega)
        rw [e, set_self hbd]
        exact hK
      by_cases hi0 : i = 0
      · have hz : (i : Int) = 0 := by omega
        simp (disch := first | assumption | omega | (simp only [List.length_append]; omega)) only [go_sem, reduceCtorEq, Nat.reduceEqDiff, Nat.reduceAdd, Nat.reduceSub, Nat.reduceMul, Nat.reduceLeDiff, Int.reduceLT, Int.reduceLE, Int.reduceEq, ↓reduceIte, Int.reduceNeg, Int.reduceAdd, Int.reduceSub, Int.reduceMul, true_imp_iff, forall_const, Nat.mul_one, Int.reduceToNat, Nat.reducePow, Int.reducePow, Bool.true_and, Bool.false_and, Bool.and_false, hf, h7, hlt', hmx, ←hF]
        refine allocC_by fun d hd => ?_
        simp (disch := first | assumption | omega | (simp only [List.length_append]; omega)) only [go_sem, reduceCtorEq, Nat.reduceEqDiff, Nat.reduceAdd, Nat.reduceSub, Nat.reduceMul, Nat.reduceLeDiff, Int.reduceLT, Int.reduceLE, Int.reduceEq, ↓reduceIte, Int.reduceNeg, Int.reduceAdd, Int.reduceSub, Int.reduceMul, true_imp_iff, forall_const, Nat.mul_one, Int.reduceToNat, Nat.reducePow, Int.reducePow, Bool.true_and, Bool.false_and, Bool.and_false, hf, h7, hz, ←hF]
        refine app _ d _ hd ?_ _ .full
        simp (disch := first | assumption | omega | (simp only [List.length_append]; omega)) only [go_sem, reduceCtorEq, Nat.reduceEqDiff, Nat.reduceAdd, Nat.reduceSub, Nat.reduceMul, Nat.reduceLeDiff, Int.reduceLT, Int.reduceLE, Int.reduceEq, ↓reduceIte, Int.reduceNeg, Int.reduceAdd, Int.reduceSub, Int.reduceMul, true_imp_iff, forall_const, Nat.mul_one, Int.reduceToNat, Nat.reducePow, Int.reducePow, Bool.true_and, Bool.false_and, Bool.and_false, hf, h7, ←hF]
        refine next _ d _ hd ?_
        simp (disch := first | assumption | omega | (simp only [List.length_append]; omega)) only [go_sem, reduceCtorEq, Nat.reduceEqDiff, Nat.reduceAdd, Nat.reduceSub, Nat.reduceMul, Nat.reduceLeDiff, Int.reduceLT, Int.reduceLE, Int.reduceEq, ↓reduceIte, Int.reduceNeg, Int.reduceAdd, Int.reduceSub, Int.reduceMul, true_imp_iff, forall_const, Nat.mul_one, Int.reduceToNat, Nat.reducePow, Int.reducePow, Bool.true_and, Bool.false_and, Bool.and_false, hf]
      · obtain ⟨j, hji⟩ : ∃ j, i = j + 1 := ⟨i - 1, by omega⟩
        have hy : X[j]? = some (X[j]'(by omega)) := List.getElem?_eq_getElem (by omega)
        obtain ⟨y, hyy⟩ : ∃ y, X[j]'(by omega) = y := ⟨_, rfl⟩
        rw [hyy] at hy
        have hmy := spanV_map_get hy
        have hyx := flat_next hXr hy (hji ▸ hx)
        have hnz : ¬ (i : Int) = 0 := by omega
        have hsub : (i : Int) - 1 = j := by omega
        simp (disch := first | assumption | omega | (simp only [List.length_append]; omega)) only [go_sem, reduceCtorEq, Nat.reduceEqDiff, Nat.reduceAdd, Nat.reduceSub, Nat.reduceMul, Nat.reduceLeDiff, Int.reduceLT, Int.reduceLE, Int.reduceEq, ↓reduceIte, Int.reduceNeg, Int.reduceAdd, Int.reduceSub, Int.reduceMul, true_imp_iff, forall_const, Nat.mul_one, Int.reduceToNat, Nat.reducePow, Int.reducePow, Bool.true_and, Bool.false_and, Bool.and_false, hf, h7, hlt', hmx, hnz, ←hF]
        refine allocC_by fun d hd => ?_
        simp (disch := first | assumption | omega | (simp only [List.length_append]; omega)) only [go_sem, reduceCtorEq, Nat.reduceEqDiff, Nat.reduceAdd, Nat.reduceSub, Nat.reduceMul, Nat.reduceLeDiff, Int.reduceLT, Int.reduceLE, Int.reduceEq, ↓reduceIte, Int.reduceNeg, Int.reduceAdd, Int.reduceSub, Int.reduceMul, true_imp_iff, forall_const, Nat.mul_one, Int.reduceToNat, Nat.reducePow, Int.reducePow, Bool.true_and, Bool.false_and, Bool.and_false, hf, h7, hnz, hsub, hmy, hyx, ←hF]
        refine app _ d _ hd ?_ _ .full
        simp (disch := first | assumption | omega | (simp only [List.length_append]; omega)) only [go_sem, reduceCtorEq, Nat.reduceEqDiff, Nat.reduceAdd, Nat.reduceSub, Nat.reduceMul, Nat.reduceLeDiff, Int.reduceLT, Int.reduceLE, Int.reduceEq, ↓reduceIte, Int.reduceNeg, Int.reduceAdd, Int.reduceSub, Int.reduceMul, true_imp_iff, forall_const, Nat.mul_one, Int.reduceToNat, Nat.reducePow, Int.reducePow, Bool.true_and, Bool.false_and, Bool.and_false, hf, h7, ←hF]
        refine next _ d _ hd ?_
        simp (disch := first | assumption | omega | (simp only [List.length_append]; omega)) only [go_sem, reduceCtorEq, Nat.reduceEqDiff, Nat.reduceAdd, Nat.reduceSub, Nat.reduceMul, Nat.reduceLeDiff, Int.reduceLT, Int.reduceLE, Int.reduceEq, ↓reduceIte, Int.reduceNeg, Int.reduceAdd, Int.reduceSub, Int.reduceMul, true_imp_iff, forall_const, Nat.mul_one, Int.reduceToNat, Nat.reducePow, Int.reducePow, Bool.true_and, Bool.false_and, Bool.and_false, hf]
    · have hlt' : ¬ (X.length : Int) < X.length := by omega
      simp (disch := first | assumption | omega | (simp only [List.length_append]; omega)) only [go_sem, reduceCtorEq, Nat.reduceEqDiff, Nat.reduceAdd, Nat.reduceSub, Nat.reduceMul, Nat.reduceLeDiff, Int.reduceLT, Int.reduceLE, Int.reduceEq, ↓reduceIte, Int.reduceNeg, Int.reduceAdd, Int.reduceSub, Int.reduceMul, true_imp_iff, forall_const, Nat.mul_one, Int.reduceToNat, Nat.reducePow, Int.reducePow, Bool.true_and, Bool.false_and, Bool.and_false, hf, h7, ←hF]
      refine rest _ _ hC4 ?_
      simp (disch := first | assumption | omega | (simp only [List.length_append]; omega)) only [go_sem, reduceCtorEq, Nat.reduceEqDiff, Nat.reduceAdd, Nat.reduceSub, Nat.reduceMul, Nat.reduceLeDiff, Int.reduceLT, Int.reduceLE, Int.reduceEq, ↓reduceIte, Int.reduceNeg, Int.reduceAdd, Int.reduceSub, Int.reduceMul, true_imp_iff, forall_const, Nat.mul_one, Int.reduceToNat, Nat.reducePow, Int.reducePow, Bool.true_and, Bool.false_and, Bool.and_false, hf, h7]
end Go.A
