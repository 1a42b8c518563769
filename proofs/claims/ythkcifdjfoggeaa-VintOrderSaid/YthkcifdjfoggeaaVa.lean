/- Spans taken in, walked. -/
import Derived.Test.YthkcifdjfoggeaaBm
import Derived.Test.YthkcifdjfoggeaaCodeA
import Derived.Test.YthkcifdjfoggeaaSpansP
namespace Go.A
open Go.Proofs Go.Vint
set_option maxRecDepth 100000
set_option linter.unusedSimpArgs false
set_option linter.unusedVariables false

def spanAV (s : Int × Int) : AV := .agg [.int .u64 s.1, .int .u64 s.2]
def spansAV (L : List (Int × Int)) : AV := .sl .shr (L.map spanAV)
theorem spanAV_ok (s : Int × Int) : (spanAV s).isAny = false ∧ (spanAV s).cells.length = 2 := ⟨rfl, rfl⟩
theorem spanAV_lf (s : Int × Int) : leaves (spanAV s).cells = true := rfl

set_option maxHeartbeats 400000 in
theorem With_ok (L : List (Int × Int)) (s : Int × Int) (hL : L.length ≤ 1000000) : Pure Try.prog 19 [spansAV L, spanAV s] (spansAV (withL L s)) := by
  intro σ
  refine a19 (by simp) ?_
  obtain ⟨f, t⟩ := s
  simp (disch := omega) only [go_sem, reduceCtorEq, Nat.reduceEqDiff, Nat.reduceAdd, Nat.reduceSub, Nat.reduceMul, Nat.reduceLeDiff, Int.reduceLT, Int.reduceLE, Int.reduceEq, ↓reduceIte, Int.reduceNeg, Int.reduceAdd, Int.reduceSub, Int.reduceMul, spanAV, spansAV]
  refine ⟨rfl, fun b hb => ?_⟩
  simp (disch := omega) only [go_sem, reduceCtorEq, Nat.reduceEqDiff, Nat.reduceAdd, Nat.reduceSub, Nat.reduceMul, Nat.reduceLeDiff, Int.reduceLT, Int.reduceLE, Int.reduceEq, ↓reduceIte, Int.reduceNeg, Int.reduceAdd, Int.reduceSub, Int.reduceMul, spanAV, spansAV]
  refine condC_d (fun h => ?_) (fun h => ?_)
  · simp (disch := omega) only [go_sem, reduceCtorEq, Nat.reduceEqDiff, Nat.reduceAdd, Nat.reduceSub, Nat.reduceMul, Nat.reduceLeDiff, Int.reduceLT, Int.reduceLE, Int.reduceEq, ↓reduceIte, Int.reduceNeg, Int.reduceAdd, Int.reduceSub, Int.reduceMul, spanAV, spansAV]
    refine appC_by (Grown.start _ _) (wellSz_map spanAV_ok L) (leaves_map spanAV_lf L) (by simp; omega) (by simp; omega) fun k' σ' hg => ?_
    simp (disch := omega) only [go_sem, reduceCtorEq, Nat.reduceEqDiff, Nat.reduceAdd, Nat.reduceSub, Nat.reduceMul, Nat.reduceLeDiff, Int.reduceLT, Int.reduceLE, Int.reduceEq, ↓reduceIte, Int.reduceNeg, Int.reduceAdd, Int.reduceSub, Int.reduceMul, spanAV, spansAV]
    refine retC_by (hg.drop.trans (Drop.set hb)) (.sl _ _) ⟨?_, rfl⟩
    rw [withL, if_neg (by simp; omega)]
  · have rest : ∀ (i : Nat) (a : AFr) (σ1 : ASt) (k : SK), i ≤ L.length → (∀ p ∈ L.take i, p.2 < f) → (∀ p, L[i]? = some p → ¬ p.2 < f) → a 0 = .sl .shr (L.map spanAV) → a 3 = .ptr b 0 → a 6 = .int .i64 i → a 5 = .sl k ((L.take i).map spanAV) →
        Grown (σ.set b (some (.obj [.int .u64 f, .int .u64 t]))) σ1 k i 2 → ACode.wp Try.prog c19_30 (RetQ [.t 4] fun v σ' => v = .sl .shr (List.map spanAV (withL L (f, t))) ∧ σ' = σ) a σ1 := by
      intro i a σ1 k hi hall hstop h0 h3 h6 h5 hg
      have hw : withL L (f, t) = L.take i ++ mergeW f t (L.drop i) := by
        rw [withL, if_pos (by simp; omega), withN_take i L hall, withN_stop hstop]
      obtain ⟨F, hF⟩ : ∃ F, F = ACode.wp Try.prog c19_29 := ⟨_, rfl⟩
      have fin : ∀ (j : Nat) (f' t' : Int) (a : AFr) (σ1 : ASt), i ≤ j → j ≤ L.length → mergeW f t (L.drop i) = mergeW f' t' (L.drop j) → (∀ p, L[j]? = some p → ¬ p.1 ≤ t') → a 0 = .sl .shr (L.map spanAV) → a 3 = .ptr b 0 → a 6 = .int .i64 j → a 5 = .sl k ((L.take i).map spanAV) →
          Grown (σ.set b (some (.obj [.int .u64 f', .int .u64 t']))) σ1 k i 2 → F (RetQ [.t 4] fun v σ' => v = .sl .shr (List.map spanAV (withL L (f, t))) ∧ σ' = σ) a σ1 := by
        rw [hF]
        intro j f' t' a σ1 hij hj hm hst h0 h3 h6 h5 hg
        have hσ := hg.at (x := b) (ASt.set_same _ _ _)
        have hsl := slV_from (f := spanAV) (s := 2) (fun _ => rfl) (k := .shr) hj
        rw [mergeW_stop hst] at hm
        simp (disch := omega) only [go_sem, reduceCtorEq, Nat.reduceEqDiff, Nat.reduceAdd, Nat.reduceSub, Nat.reduceMul, Nat.reduceLeDiff, Int.reduceLT, Int.reduceLE, Int.reduceEq, ↓reduceIte, Int.reduceNeg, Int.reduceAdd, Int.reduceSub, Int.reduceMul, h0, h3, h6, h5, hσ, hsl]
        refine appC_by (by simpa [Nat.min_eq_left hi] using hg) rfl rfl (by simp; omega) (by simp; omega) fun k1 σ2 hg1 => ?_
        simp (disch := omega) only [go_sem, reduceCtorEq, Nat.reduceEqDiff, Nat.reduceAdd, Nat.reduceSub, Nat.reduceMul, Nat.reduceLeDiff, Int.reduceLT, Int.reduceLE, Int.reduceEq, ↓reduceIte, Int.reduceNeg, Int.reduceAdd, Int.reduceSub, Int.reduceMul, h0, h3, h6, h5, hσ, hsl]
        refine appC_by hg1 (wellSz_map spanAV_ok _) (leaves_map spanAV_lf _) (by simp; omega) (by simp; omega) fun k2 σ3 hg2 => ?_
        simp (disch := omega) only [go_sem, reduceCtorEq, Nat.reduceEqDiff, Nat.reduceAdd, Nat.reduceSub, Nat.reduceMul, Nat.reduceLeDiff, Int.reduceLT, Int.reduceLE, Int.reduceEq, ↓reduceIte, Int.reduceNeg, Int.reduceAdd, Int.reduceSub, Int.reduceMul]
        refine retC_by (hg2.drop.trans (Drop.set hb)) (.sl _ _) ⟨?_, rfl⟩
        rw [hw, hm]
        simp [spanAV]
      simp (disch := omega) only [go_sem, reduceCtorEq, Nat.reduceEqDiff, Nat.reduceAdd, Nat.reduceSub, Nat.reduceMul, Nat.reduceLeDiff, Int.reduceLT, Int.reduceLE, Int.reduceEq, ↓reduceIte, Int.reduceNeg, Int.reduceAdd, Int.reduceSub, Int.reduceMul]
      rw [← hF]
      refine wp_loop_by (fun (jft : Nat × Int × Int) a σ' => i ≤ jft.1 ∧ jft.1 ≤ L.length ∧ mergeW f t (L.drop i) = mergeW jft.2.1 jft.2.2 (L.drop jft.1) ∧ a 0 = .sl .shr (L.map spanAV) ∧ a 3 = .ptr b 0 ∧ a 6 = .int .i64 jft.1 ∧ a 5 = .sl k ((L.take i).map spanAV) ∧
        Grown (σ.set b (some (.obj [.int .u64 jft.2.1, .int .u64 jft.2.2]))) σ' k i 2) (fun jft => L.length - jft.1) (i, f, t) (Dr.now ⟨Nat.le_refl _, hi, rfl, h0, h3, h6, h5, hg⟩) ?_
      rintro ⟨j, f', t'⟩ a σ1 ⟨hij, hj, hm, h0, h3, h6, h5, hg⟩
      dsimp only at hij hj hm h6 hg
      have hσ := hg.at (x := b) (ASt.set_same _ _ _)
      by_cases hlt : j < L.length
      · have hidx : L[j]? = some L[j] := List.getElem?_eq_getElem hlt
        simp (disch := omega) only [go_sem, reduceCtorEq, Nat.reduceEqDiff, Nat.reduceAdd, Nat.reduceSub, Nat.reduceMul, Nat.reduceLeDiff, Int.reduceLT, Int.reduceLE, Int.reduceEq, ↓reduceIte, Int.reduceNeg, Int.reduceAdd, Int.reduceSub, Int.reduceMul, h0, h3, h6, h5, hσ, hlt, List.getElem?_map, hidx, spanAV]
        refine condC_d (fun hf => ?_) (fun hf => ?_)
        · simp (disch := omega) only [go_sem, reduceCtorEq, Nat.reduceEqDiff, Nat.reduceAdd, Nat.reduceSub, Nat.reduceMul, Nat.reduceLeDiff, Int.reduceLT, Int.reduceLE, Int.reduceEq, ↓reduceIte, Int.reduceNeg, Int.reduceAdd, Int.reduceSub, Int.reduceMul, h0, h3, h6, h5, hσ, hlt, List.getElem?_map, hidx, spanAV]
          refine ⟨(j + 1, min f' L[j].1, max t' L[j].2), by dsimp only; omega, Dr.now ⟨by dsimp only; omega, by dsimp only; omega, ?_, ?_, ?_, ?_, ?_, ?_⟩⟩
          · rw [hm]; exact mergeW_step hidx hf
          · simp (disch := omega) only [go_sem, reduceCtorEq, Nat.reduceEqDiff, Nat.reduceAdd, Nat.reduceSub, Nat.reduceMul, Nat.reduceLeDiff, Int.reduceLT, Int.reduceLE, Int.reduceEq, ↓reduceIte, Int.reduceNeg, Int.reduceAdd, Int.reduceSub, Int.reduceMul, h0]
          · simp (disch := omega) only [go_sem, reduceCtorEq, Nat.reduceEqDiff, Nat.reduceAdd, Nat.reduceSub, Nat.reduceMul, Nat.reduceLeDiff, Int.reduceLT, Int.reduceLE, Int.reduceEq, ↓reduceIte, Int.reduceNeg, Int.reduceAdd, Int.reduceSub, Int.reduceMul, h3]
          · simp (disch := omega) only [go_sem, reduceCtorEq, Nat.reduceEqDiff, Nat.reduceAdd, Nat.reduceSub, Nat.reduceMul, Nat.reduceLeDiff, Int.reduceLT, Int.reduceLE, Int.reduceEq, ↓reduceIte, Int.reduceNeg, Int.reduceAdd, Int.reduceSub, Int.reduceMul]
          · simp (disch := omega) only [go_sem, reduceCtorEq, Nat.reduceEqDiff, Nat.reduceAdd, Nat.reduceSub, Nat.reduceMul, Nat.reduceLeDiff, Int.reduceLT, Int.reduceLE, Int.reduceEq, ↓reduceIte, Int.reduceNeg, Int.reduceAdd, Int.reduceSub, Int.reduceMul, h5]
          · rw [ASt.set_set]; exact hg.obj
        · simp (disch := omega) only [go_sem, reduceCtorEq, Nat.reduceEqDiff, Nat.reduceAdd, Nat.reduceSub, Nat.reduceMul, Nat.reduceLeDiff, Int.reduceLT, Int.reduceLE, Int.reduceEq, ↓reduceIte, Int.reduceNeg, Int.reduceAdd, Int.reduceSub, Int.reduceMul, h0, h3, h6, h5, hσ]
          refine fin j f' t' _ σ1 hij hj hm (fun p hp => by rw [hidx] at hp; injection hp with hp; subst hp; exact hf) ?_ ?_ ?_ ?_ hg <;> simp (disch := omega) only [go_sem, reduceCtorEq, Nat.reduceEqDiff, Nat.reduceAdd, Nat.reduceSub, Nat.reduceMul, Nat.reduceLeDiff, Int.reduceLT, Int.reduceLE, Int.reduceEq, ↓reduceIte, Int.reduceNeg, Int.reduceAdd, Int.reduceSub, Int.reduceMul, h0, h3, h6, h5]
      · have hno : L[j]? = none := List.getElem?_eq_none (by omega)
        simp (disch := omega) only [go_sem, reduceCtorEq, Nat.reduceEqDiff, Nat.reduceAdd, Nat.reduceSub, Nat.reduceMul, Nat.reduceLeDiff, Int.reduceLT, Int.reduceLE, Int.reduceEq, ↓reduceIte, Int.reduceNeg, Int.reduceAdd, Int.reduceSub, Int.reduceMul, h0, h3, h6, h5, hσ, hlt]
        refine fin j f' t' _ σ1 hij hj hm (fun p hp => by rw [hno] at hp; cases hp) ?_ ?_ ?_ ?_ hg <;> simp (disch := omega) only [go_sem, reduceCtorEq, Nat.reduceEqDiff, Nat.reduceAdd, Nat.reduceSub, Nat.reduceMul, Nat.reduceLeDiff, Int.reduceLT, Int.reduceLE, Int.reduceEq, ↓reduceIte, Int.reduceNeg, Int.reduceAdd, Int.reduceSub, Int.reduceMul, h0, h3, h6, h5]
    simp (disch := omega) only [go_sem, reduceCtorEq, Nat.reduceEqDiff, Nat.reduceAdd, Nat.reduceSub, Nat.reduceMul, Nat.reduceLeDiff, Int.reduceLT, Int.reduceLE, Int.reduceEq, ↓reduceIte, Int.reduceNeg, Int.reduceAdd, Int.reduceSub, Int.reduceMul, spanAV, spansAV]
    refine wp_loop_by (fun (i : Nat) a σ' => i ≤ L.length ∧ (∀ p ∈ L.take i, p.2 < f) ∧ a 0 = .sl .shr (L.map spanAV) ∧ a 3 = .ptr b 0 ∧ a 6 = .int .i64 i ∧ ∃ k, a 5 = .sl k ((L.take i).map spanAV) ∧
      Grown (σ.set b (some (.obj [.int .u64 f, .int .u64 t]))) σ' k i 2) (fun i => L.length - i) 0 (Dr.now ⟨Nat.zero_le _, by simp, ?_, ?_, ?_, .full, ?_, Grown.start _ _⟩) ?_
    · simp (disch := omega) only [go_sem, reduceCtorEq, Nat.reduceEqDiff, Nat.reduceAdd, Nat.reduceSub, Nat.reduceMul, Nat.reduceLeDiff, Int.reduceLT, Int.reduceLE, Int.reduceEq, ↓reduceIte, Int.reduceNeg, Int.reduceAdd, Int.reduceSub, Int.reduceMul]
    · simp (disch := omega) only [go_sem, reduceCtorEq, Nat.reduceEqDiff, Nat.reduceAdd, Nat.reduceSub, Nat.reduceMul, Nat.reduceLeDiff, Int.reduceLT, Int.reduceLE, Int.reduceEq, ↓reduceIte, Int.reduceNeg, Int.reduceAdd, Int.reduceSub, Int.reduceMul]
    · simp (disch := omega) only [go_sem, reduceCtorEq, Nat.reduceEqDiff, Nat.reduceAdd, Nat.reduceSub, Nat.reduceMul, Nat.reduceLeDiff, Int.reduceLT, Int.reduceLE, Int.reduceEq, ↓reduceIte, Int.reduceNeg, Int.reduceAdd, Int.reduceSub, Int.reduceMul]
    · simp (disch := omega) only [go_sem, reduceCtorEq, Nat.reduceEqDiff, Nat.reduceAdd, Nat.reduceSub, Nat.reduceMul, Nat.reduceLeDiff, Int.reduceLT, Int.reduceLE, Int.reduceEq, ↓reduceIte, Int.reduceNeg, Int.reduceAdd, Int.reduceSub, Int.reduceMul]
    rintro i a σ1 ⟨hi, hall, h0, h3, h6, k, h5, hg⟩
    have hσ := hg.at (x := b) (ASt.set_same _ _ _)
    by_cases hlt : i < L.length
    · have hidx : L[i]? = some L[i] := List.getElem?_eq_getElem hlt
      simp (disch := omega) only [go_sem, reduceCtorEq, Nat.reduceEqDiff, Nat.reduceAdd, Nat.reduceSub, Nat.reduceMul, Nat.reduceLeDiff, Int.reduceLT, Int.reduceLE, Int.reduceEq, ↓reduceIte, Int.reduceNeg, Int.reduceAdd, Int.reduceSub, Int.reduceMul, h0, h3, h6, h5, hσ, hlt, List.getElem?_map, hidx, spanAV]
      refine condC_d (fun hf => ?_) (fun hf => ?_)
      · simp (disch := omega) only [go_sem, reduceCtorEq, Nat.reduceEqDiff, Nat.reduceAdd, Nat.reduceSub, Nat.reduceMul, Nat.reduceLeDiff, Int.reduceLT, Int.reduceLE, Int.reduceEq, ↓reduceIte, Int.reduceNeg, Int.reduceAdd, Int.reduceSub, Int.reduceMul, h0, h3, h6, h5, hσ, hlt, List.getElem?_map, hidx, spanAV]
        refine appC_by (by simpa [Nat.min_eq_left hi] using hg) rfl rfl (by simp; omega) (by simp; omega) fun k' σ' hg' => ?_
        simp (disch := omega) only [go_sem, reduceCtorEq, Nat.reduceEqDiff, Nat.reduceAdd, Nat.reduceSub, Nat.reduceMul, Nat.reduceLeDiff, Int.reduceLT, Int.reduceLE, Int.reduceEq, ↓reduceIte, Int.reduceNeg, Int.reduceAdd, Int.reduceSub, Int.reduceMul, h0, h3, h6, h5, hσ]
        have htk : L.take (i + 1) = L.take i ++ [L[i]] := List.take_succ_eq_append_getElem hlt
        refine ⟨i + 1, by dsimp only; omega, Dr.now ⟨by omega, ?_, ?_, ?_, ?_, k', ?_, ?_⟩⟩
        · intro p hp
          rw [htk] at hp
          rcases List.mem_append.1 hp with hp | hp
          · exact hall p hp
          · simp at hp; subst hp; exact hf
        · simp (disch := omega) only [go_sem, reduceCtorEq, Nat.reduceEqDiff, Nat.reduceAdd, Nat.reduceSub, Nat.reduceMul, Nat.reduceLeDiff, Int.reduceLT, Int.reduceLE, Int.reduceEq, ↓reduceIte, Int.reduceNeg, Int.reduceAdd, Int.reduceSub, Int.reduceMul, h0]
        · simp (disch := omega) only [go_sem, reduceCtorEq, Nat.reduceEqDiff, Nat.reduceAdd, Nat.reduceSub, Nat.reduceMul, Nat.reduceLeDiff, Int.reduceLT, Int.reduceLE, Int.reduceEq, ↓reduceIte, Int.reduceNeg, Int.reduceAdd, Int.reduceSub, Int.reduceMul, h3]
        · simp (disch := omega) only [go_sem, reduceCtorEq, Nat.reduceEqDiff, Nat.reduceAdd, Nat.reduceSub, Nat.reduceMul, Nat.reduceLeDiff, Int.reduceLT, Int.reduceLE, Int.reduceEq, ↓reduceIte, Int.reduceNeg, Int.reduceAdd, Int.reduceSub, Int.reduceMul]
        · simp (disch := omega) only [go_sem, reduceCtorEq, Nat.reduceEqDiff, Nat.reduceAdd, Nat.reduceSub, Nat.reduceMul, Nat.reduceLeDiff, Int.reduceLT, Int.reduceLE, Int.reduceEq, ↓reduceIte, Int.reduceNeg, Int.reduceAdd, Int.reduceSub, Int.reduceMul, htk, List.map_append, spanAV]
        · simpa [Nat.min_eq_left hi] using hg'
      · simp (disch := omega) only [go_sem, reduceCtorEq, Nat.reduceEqDiff, Nat.reduceAdd, Nat.reduceSub, Nat.reduceMul, Nat.reduceLeDiff, Int.reduceLT, Int.reduceLE, Int.reduceEq, ↓reduceIte, Int.reduceNeg, Int.reduceAdd, Int.reduceSub, Int.reduceMul, h0, h3, h6, h5, hσ]
        refine rest i _ σ1 k hi hall (fun p hp => by rw [hidx] at hp; injection hp with hp; subst hp; exact hf) ?_ ?_ ?_ ?_ hg <;> simp (disch := omega) only [go_sem, reduceCtorEq, Nat.reduceEqDiff, Nat.reduceAdd, Nat.reduceSub, Nat.reduceMul, Nat.reduceLeDiff, Int.reduceLT, Int.reduceLE, Int.reduceEq, ↓reduceIte, Int.reduceNeg, Int.reduceAdd, Int.reduceSub, Int.reduceMul, h0, h3, h6, h5]
    · have hno : L[i]? = none := List.getElem?_eq_none (by omega)
      simp (disch := omega) only [go_sem, reduceCtorEq, Nat.reduceEqDiff, Nat.reduceAdd, Nat.reduceSub, Nat.reduceMul, Nat.reduceLeDiff, Int.reduceLT, Int.reduceLE, Int.reduceEq, ↓reduceIte, Int.reduceNeg, Int.reduceAdd, Int.reduceSub, Int.reduceMul, h0, h3, h6, h5, hσ, hlt]
      refine rest i _ σ1 k hi hall (fun p hp => by rw [hno] at hp; cases hp) ?_ ?_ ?_ ?_ hg <;> simp (disch := omega) only [go_sem, reduceCtorEq, Nat.reduceEqDiff, Nat.reduceAdd, Nat.reduceSub, Nat.reduceMul, Nat.reduceLeDiff, Int.reduceLT, Int.reduceLE, Int.reduceEq, ↓reduceIte, Int.reduceNeg, Int.reduceAdd, Int.reduceSub, Int.reduceMul, h0, h3, h6, h5]
end Go.A
