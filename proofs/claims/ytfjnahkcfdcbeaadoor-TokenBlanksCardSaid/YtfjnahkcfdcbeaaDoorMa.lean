/- TokenBlanks, walked. -/
import Derived.Test.YtfjnahkcfdcbeaaDoorYd
import Derived.Test.YtfjnahkcfdcbeaaDoorCodeDa
namespace Go.A
open Go.Proofs Go.Lib
set_option maxRecDepth 100000
set_option linter.unusedSimpArgs false
set_option linter.unusedVariables false

theorem taw1 : lexP [115, 117, 109, 40, 97, 49, 58, 66, 36, 50, 41, 226, 137, 164, 49, 46, 53] = ([⟨3, [83, 85, 77], 0, 0⟩, ⟨6, [40], 3, 3⟩, ⟨4, [65, 49], 4, 4⟩, ⟨6, [58], 6, 6⟩, ⟨4, [66, 36, 50], 7, 7⟩, ⟨6, [41], 10, 10⟩, ⟨6, [60, 61], 11, 11⟩, ⟨1, [49, 46, 53], 14, 12⟩, ⟨0, [], 17, 15⟩], 0, 0) := by decide +kernel
theorem taw2 : lexP [32, 34, 195, 169] = ([], 1, 10) := by decide +kernel
theorem tawake_ok {σ : ASt} (hU : U8 σ) : ACalls Tryd.prog 23 [] σ fun v σ' => v = .bool true ∧ σ' = σ := by
  refine a23 (by simp) ?_
  simp (disch := first | assumption | omega | (simp only [List.length_append, List.length_cons, List.length_nil]; omega)) only [go_sem, reduceCtorEq, Nat.reduceEqDiff, Nat.reduceAdd, Nat.reduceSub, Nat.reduceMul, Nat.reduceLeDiff, Int.reduceLT, Int.reduceLE, Int.reduceEq, ↓reduceIte, Int.reduceNeg, Int.reduceAdd, Int.reduceSub, Int.reduceMul, true_imp_iff, forall_const, Nat.mul_one, Int.reduceToNat, Nat.reducePow, Int.reducePow, Bool.true_and, Bool.false_and, Bool.and_false]
  refine (lex_ok hU _ (by decide)).mono ?_
  rintro v σ' ⟨rfl, rfl⟩
  rw [taw1]
  simp (disch := first | assumption | omega | (simp only [List.length_append, List.length_cons, List.length_nil]; omega)) only [go_sem, reduceCtorEq, Nat.reduceEqDiff, Nat.reduceAdd, Nat.reduceSub, Nat.reduceMul, Nat.reduceLeDiff, Int.reduceLT, Int.reduceLE, Int.reduceEq, ↓reduceIte, Int.reduceNeg, Int.reduceAdd, Int.reduceSub, Int.reduceMul, true_imp_iff, forall_const, Nat.mul_one, Int.reduceToNat, Nat.reducePow, Int.reducePow, Bool.true_and, Bool.false_and, Bool.and_false]
  refine (lex_ok hU _ (by decide)).mono ?_
  rintro v σ' ⟨rfl, rfl⟩
  rw [taw2]
  simp (disch := first | assumption | omega | (simp only [List.length_append, List.length_cons, List.length_nil]; omega)) only [go_sem, reduceCtorEq, Nat.reduceEqDiff, Nat.reduceAdd, Nat.reduceSub, Nat.reduceMul, Nat.reduceLeDiff, Int.reduceLT, Int.reduceLE, Int.reduceEq, ↓reduceIte, Int.reduceNeg, Int.reduceAdd, Int.reduceSub, Int.reduceMul, true_imp_iff, forall_const, Nat.mul_one, Int.reduceToNat, Nat.reducePow, Int.reducePow, Bool.true_and, Bool.false_and, Bool.and_false, tokAV]
  exact retC_by (Drop.refl _) (.refl _) ⟨rfl, rfl⟩

def blk (i : Nat) : UInt8 := ([32, 9, 10] : List UInt8).getD (i % 3) 0
def bls (n : Nat) : List UInt8 := (List.range n).map blk
theorem blk_cut (i : Nat) : (([32, 9, 10] : List UInt8).take (((i : Int).tmod 3 + 1).toNat)).drop ((i : Int).tmod 3).toNat = [blk i] := by
  have e : (i : Int).tmod 3 = ((i % 3 : Nat) : Int) := rfl
  rw [e]
  have h : i % 3 = 0 ∨ i % 3 = 1 ∨ i % 3 = 2 := by omega
  unfold blk
  rcases h with h | h | h <;> rw [h] <;> rfl
theorem blk_bl (i : Nat) : isBl (blk i) := by
  have h : i % 3 = 0 ∨ i % 3 = 1 ∨ i % 3 = 2 := by omega
  unfold blk
  rcases h with h | h | h <;> rw [h]
  · exact .inl rfl
  · exact .inr (.inl rfl)
  · exact .inr (.inr rfl)
theorem bls_len (n : Nat) : (bls n).length = n := by simp [bls]
theorem bls_bl (n : Nat) : ∀ c ∈ bls n, isBl c := by
  intro c hc
  obtain ⟨i, _, rfl⟩ := List.mem_map.1 hc
  exact blk_bl i
theorem bls_succ (n : Nat) : bls n ++ [blk n] = bls (n + 1) := by simp [bls, List.range_succ]
theorem tok_at {L : List Tok} {i : Nat} {t : Tok} (h : L[i]? = some t) : (L.map tokAV)[i]? = some (.agg [.int .i64 t.kind, .str t.text, .int .i64 t.at', .int .i64 t.col]) := by
  rw [List.getElem?_map, h]; rfl

set_option maxHeartbeats 2000000 in
theorem TokenBlanks_any {σ : ASt} (hU : U8 σ) (l : List UInt8) (n : Int) : ACalls Tryd.prog 5 [.str l, .int .i64 n] σ fun v σ' => v = .bool true ∧ σ' = σ := by
  have hc := cut_ok l 300
  have hl : (l.take 300).length ≤ 300 := by simp; omega
  generalize l.take 300 = s at hc hl
  refine a5 (by simp) ?_
  obtain ⟨F, hF⟩ : ∃ F, F = ACode.wp Tryd.prog c5_50 := ⟨_, rfl⟩
  obtain ⟨G, hG⟩ : ∃ F, F = ACode.wp Tryd.prog c5_47 := ⟨_, rfl⟩
  simp (disch := first | assumption | omega | (simp only [List.length_append, List.length_cons, List.length_nil]; omega)) only [go_sem, reduceCtorEq, Nat.reduceEqDiff, Nat.reduceAdd, Nat.reduceSub, Nat.reduceMul, Nat.reduceLeDiff, Int.reduceLT, Int.reduceLE, Int.reduceEq, ↓reduceIte, Int.reduceNeg, Int.reduceAdd, Int.reduceSub, Int.reduceMul, true_imp_iff, forall_const, Nat.mul_one, Int.reduceToNat, Nat.reducePow, Int.reducePow, Bool.true_and, Bool.false_and, Bool.and_false, ←hF]
  refine hc.use ?_
  by_cases hn0 : n < 0
  · simp (disch := first | assumption | omega | (simp only [List.length_append, List.length_cons, List.length_nil]; omega)) only [go_sem, reduceCtorEq, Nat.reduceEqDiff, Nat.reduceAdd, Nat.reduceSub, Nat.reduceMul, Nat.reduceLeDiff, Int.reduceLT, Int.reduceLE, Int.reduceEq, ↓reduceIte, Int.reduceNeg, Int.reduceAdd, Int.reduceSub, Int.reduceMul, true_imp_iff, forall_const, Nat.mul_one, Int.reduceToNat, Nat.reducePow, Int.reducePow, Bool.true_and, Bool.false_and, Bool.and_false, hn0, ←hF]
    refine (tawake_ok hU).mono ?_
    rintro v σ' ⟨rfl, rfl⟩
    simp (disch := first | assumption | omega | (simp only [List.length_append, List.length_cons, List.length_nil]; omega)) only [go_sem, reduceCtorEq, Nat.reduceEqDiff, Nat.reduceAdd, Nat.reduceSub, Nat.reduceMul, Nat.reduceLeDiff, Int.reduceLT, Int.reduceLE, Int.reduceEq, ↓reduceIte, Int.reduceNeg, Int.reduceAdd, Int.reduceSub, Int.reduceMul, true_imp_iff, forall_const, Nat.mul_one, Int.reduceToNat, Nat.reducePow, Int.reducePow, Bool.true_and, Bool.false_and, Bool.and_false]
    exact retC_by (Drop.refl _) (.refl _) ⟨rfl, rfl⟩
  by_cases hn9 : 9 < n
  · simp (disch := first | assumption | omega | (simp only [List.length_append, List.length_cons, List.length_nil]; omega)) only [go_sem, reduceCtorEq, Nat.reduceEqDiff, Nat.reduceAdd, Nat.reduceSub, Nat.reduceMul, Nat.reduceLeDiff, Int.reduceLT, Int.reduceLE, Int.reduceEq, ↓reduceIte, Int.reduceNeg, Int.reduceAdd, Int.reduceSub, Int.reduceMul, true_imp_iff, forall_const, Nat.mul_one, Int.reduceToNat, Nat.reducePow, Int.reducePow, Bool.true_and, Bool.false_and, Bool.and_false, hn0, hn9, ←hF]
    refine (tawake_ok hU).mono ?_
    rintro v σ' ⟨rfl, rfl⟩
    simp (disch := first | assumption | omega | (simp only [List.length_append, List.length_cons, List.length_nil]; omega)) only [go_sem, reduceCtorEq, Nat.reduceEqDiff, Nat.reduceAdd, Nat.reduceSub, Nat.reduceMul, Nat.reduceLeDiff, Int.reduceLT, Int.reduceLE, Int.reduceEq, ↓reduceIte, Int.reduceNeg, Int.reduceAdd, Int.reduceSub, Int.reduceMul, true_imp_iff, forall_const, Nat.mul_one, Int.reduceToNat, Nat.reducePow, Int.reducePow, Bool.true_and, Bool.false_and, Bool.and_false]
    exact retC_by (Drop.refl _) (.refl _) ⟨rfl, rfl⟩
  obtain ⟨n, rfl⟩ : ∃ k : Nat, n = k := ⟨n.toNat, by omega⟩
  simp (disch := first | assumption | omega | (simp only [List.length_append, List.length_cons, List.length_nil]; omega)) only [go_sem, reduceCtorEq, Nat.reduceEqDiff, Nat.reduceAdd, Nat.reduceSub, Nat.reduceMul, Nat.reduceLeDiff, Int.reduceLT, Int.reduceLE, Int.reduceEq, ↓reduceIte, Int.reduceNeg, Int.reduceAdd, Int.reduceSub, Int.reduceMul, true_imp_iff, forall_const, Nat.mul_one, Int.reduceToNat, Nat.reducePow, Int.reducePow, Bool.true_and, Bool.false_and, Bool.and_false, hn0, hn9, ←hF]
  refine wp_loop_on (fun (i : Nat) a σ' => i ≤ n ∧ (a 0 = .str s ∧ a 1 = .int .i64 n ∧ a 5 = .str (bls i) ∧ a 6 = .int .i64 i) ∧ σ' = σ) (fun i => n - i) 0 ⟨Nat.zero_le _, ?_, rfl⟩ ?_
  · simp (disch := first | assumption | omega | (simp only [List.length_append, List.length_cons, List.length_nil]; omega)) only [go_sem, reduceCtorEq, Nat.reduceEqDiff, Nat.reduceAdd, Nat.reduceSub, Nat.reduceMul, Nat.reduceLeDiff, Int.reduceLT, Int.reduceLE, Int.reduceEq, ↓reduceIte, Int.reduceNeg, Int.reduceAdd, Int.reduceSub, Int.reduceMul, true_imp_iff, forall_const, Nat.mul_one, Int.reduceToNat, Nat.reducePow, Int.reducePow, Bool.true_and, Bool.false_and, Bool.and_false]
    rfl
  rintro i a σ1 ⟨hi, hf, rfl⟩
  by_cases hlt : i < n
  · have hlt' : (i : Int) < n := by omega
    have e0 : (i : Int).tmod 3 = ((i % 3 : Nat) : Int) := rfl
    have e1 := blk_cut i
    rw [e0] at e1
    have e2 := bls_succ i
    have e3 : (bls i).length + [blk i].length ≤ 9223372036854775807 := by rw [bls_len]; simp; omega
    have e4 : ((i % 3 : Nat) : Int) + 1 ≤ 3 := by omega
    obtain ⟨m, hm⟩ : ∃ m, i % 3 = m := ⟨_, rfl⟩
    rw [hm] at e0 e1 e4
    simp only [Int.toNat_natCast] at e1
    simp (disch := first | assumption | omega | (simp only [List.length_append, List.length_cons, List.length_nil]; omega)) only [go_sem, reduceCtorEq, Nat.reduceEqDiff, Nat.reduceAdd, Nat.reduceSub, Nat.reduceMul, Nat.reduceLeDiff, Int.reduceLT, Int.reduceLE, Int.reduceEq, ↓reduceIte, Int.reduceNeg, Int.reduceAdd, Int.reduceSub, Int.reduceMul, true_imp_iff, forall_const, Nat.mul_one, Int.reduceToNat, Nat.reducePow, Int.reducePow, Bool.true_and, Bool.false_and, Bool.and_false, hf, hlt', e0, e1, e2, e3, e4]
    exact ⟨i + 1, by omega, by omega, rfl, rfl⟩
  have hlt' : ¬ (i : Int) < n := by omega
  obtain rfl : i = n := by omega
  simp (disch := first | assumption | omega | (simp only [List.length_append, List.length_cons, List.length_nil]; omega)) only [go_sem, reduceCtorEq, Nat.reduceEqDiff, Nat.reduceAdd, Nat.reduceSub, Nat.reduceMul, Nat.reduceLeDiff, Int.reduceLT, Int.reduceLE, Int.reduceEq, ↓reduceIte, Int.reduceNeg, Int.reduceAdd, Int.reduceSub, Int.reduceMul, true_imp_iff, forall_const, Nat.mul_one, Int.reduceToNat, Nat.reducePow, Int.reducePow, Bool.true_and, Bool.false_and, Bool.and_false, hf, hlt', ←hF]
  rw [hF]
  have hbl := bls_len i
  have law := blanks_law (s := s) (b := bls i) hl (bls_bl i) (by omega)
  rw [hbl] at law
  generalize bls i = b at hbl law hf
  have f1 : b.length + s.length ≤ 9223372036854775807 := by omega
  have f2 : (b ++ s).length + b.length ≤ 9223372036854775807 := by simp; omega
  simp (disch := first | assumption | omega | (simp only [List.length_append, List.length_cons, List.length_nil]; omega)) only [go_sem, reduceCtorEq, Nat.reduceEqDiff, Nat.reduceAdd, Nat.reduceSub, Nat.reduceMul, Nat.reduceLeDiff, Int.reduceLT, Int.reduceLE, Int.reduceEq, ↓reduceIte, Int.reduceNeg, Int.reduceAdd, Int.reduceSub, Int.reduceMul, true_imp_iff, forall_const, Nat.mul_one, Int.reduceToNat, Nat.reducePow, Int.reducePow, Bool.true_and, Bool.false_and, Bool.and_false, hf, ←hG]
  refine (lex_ok hU s (by omega)).mono ?_
  rintro v σ' ⟨rfl, rfl⟩
  simp (disch := first | assumption | omega | (simp only [List.length_append, List.length_cons, List.length_nil]; omega)) only [go_sem, reduceCtorEq, Nat.reduceEqDiff, Nat.reduceAdd, Nat.reduceSub, Nat.reduceMul, Nat.reduceLeDiff, Int.reduceLT, Int.reduceLE, Int.reduceEq, ↓reduceIte, Int.reduceNeg, Int.reduceAdd, Int.reduceSub, Int.reduceMul, true_imp_iff, forall_const, Nat.mul_one, Int.reduceToNat, Nat.reducePow, Int.reducePow, Bool.true_and, Bool.false_and, Bool.and_false, hf, f1, f2, ←hG]
  refine (lex_ok hU (b ++ s ++ b) (by simp; omega)).mono ?_
  rintro v σ' ⟨rfl, rfl⟩
  have fin : ∀ (L M : List Tok) (a : AFr), L.length ≤ 1000 → (∀ j, j < L.length → ∃ k t x c x' c', L[j]? = some ⟨k, t, x, c⟩ ∧ M[j]? = some ⟨k, t, x', c'⟩ ∧ (k = 0 ∨ (x ≤ 300 ∧ c ≤ 300 ∧ x' = x + i ∧ c' = c + i))) → (a 1 = .int .i64 i ∧ a 7 = .sl .shr (L.map tokAV) ∧ a 10 = .sl .shr (M.map tokAV)) →
      G (RetQ [.t 4] fun v σ'' => v = .bool true ∧ σ'' = σ') a σ' := by
    intro L M a hL1000 hj hf
    have hLl : (L.map tokAV).length = L.length := by simp
    rw [hG]
    simp (disch := first | assumption | omega | (simp only [List.length_append, List.length_cons, List.length_nil]; omega)) only [go_sem, reduceCtorEq, Nat.reduceEqDiff, Nat.reduceAdd, Nat.reduceSub, Nat.reduceMul, Nat.reduceLeDiff, Int.reduceLT, Int.reduceLE, Int.reduceEq, ↓reduceIte, Int.reduceNeg, Int.reduceAdd, Int.reduceSub, Int.reduceMul, true_imp_iff, forall_const, Nat.mul_one, Int.reduceToNat, Nat.reducePow, Int.reducePow, Bool.true_and, Bool.false_and, Bool.and_false, hf, hLl]
    refine wp_loop_on (fun (j : Nat) a σ'' => j ≤ L.length ∧ (a 1 = .int .i64 i ∧ a 7 = .sl .shr (L.map tokAV) ∧ a 10 = .sl .shr (M.map tokAV) ∧ a 74 = .int .i64 L.length ∧ a 75 = .int .i64 j) ∧ σ'' = σ') (fun j => L.length - j) 0 ⟨Nat.zero_le _, ?_, rfl⟩ ?_
    · simp (disch := first | assumption | omega | (simp only [List.length_append, List.length_cons, List.length_nil]; omega)) only [go_sem, reduceCtorEq, Nat.reduceEqDiff, Nat.reduceAdd, Nat.reduceSub, Nat.reduceMul, Nat.reduceLeDiff, Int.reduceLT, Int.reduceLE, Int.reduceEq, ↓reduceIte, Int.reduceNeg, Int.reduceAdd, Int.reduceSub, Int.reduceMul, true_imp_iff, forall_const, Nat.mul_one, Int.reduceToNat, Nat.reducePow, Int.reducePow, Bool.true_and, Bool.false_and, Bool.and_false, hf]
    rintro j a σ2 ⟨hjl, hf, rfl⟩
    by_cases hlt : j < L.length
    · have hlt' : (j : Int) < L.length := by omega
      obtain ⟨k, t, x, c, x', c', h1, h2, h3⟩ := hj j hlt
      have i1 := tok_at h1
      have i2 := tok_at h2
      by_cases hk : k = 0
      · subst hk
        simp (disch := first | assumption | omega | (simp only [List.length_append, List.length_cons, List.length_nil]; omega)) only [go_sem, reduceCtorEq, Nat.reduceEqDiff, Nat.reduceAdd, Nat.reduceSub, Nat.reduceMul, Nat.reduceLeDiff, Int.reduceLT, Int.reduceLE, Int.reduceEq, ↓reduceIte, Int.reduceNeg, Int.reduceAdd, Int.reduceSub, Int.reduceMul, true_imp_iff, forall_const, Nat.mul_one, Int.reduceToNat, Nat.reducePow, Int.reducePow, Bool.true_and, Bool.false_and, Bool.and_false, hf, hlt', i1, i2]
        exact ⟨j + 1, by omega, by omega, rfl⟩
      · obtain ⟨b1, b2, rfl, rfl⟩ := h3.resolve_left hk
        simp (disch := first | assumption | omega | (simp only [List.length_append, List.length_cons, List.length_nil]; omega)) only [go_sem, reduceCtorEq, Nat.reduceEqDiff, Nat.reduceAdd, Nat.reduceSub, Nat.reduceMul, Nat.reduceLeDiff, Int.reduceLT, Int.reduceLE, Int.reduceEq, ↓reduceIte, Int.reduceNeg, Int.reduceAdd, Int.reduceSub, Int.reduceMul, true_imp_iff, forall_const, Nat.mul_one, Int.reduceToNat, Nat.reducePow, Int.reducePow, Bool.true_and, Bool.false_and, Bool.and_false, hf, hlt', i1, i2, hk]
        exact ⟨j + 1, by omega, by omega, rfl⟩
    · have hlt' : ¬ (j : Int) < L.length := by omega
      simp (disch := first | assumption | omega | (simp only [List.length_append, List.length_cons, List.length_nil]; omega)) only [go_sem, reduceCtorEq, Nat.reduceEqDiff, Nat.reduceAdd, Nat.reduceSub, Nat.reduceMul, Nat.reduceLeDiff, Int.reduceLT, Int.reduceLE, Int.reduceEq, ↓reduceIte, Int.reduceNeg, Int.reduceAdd, Int.reduceSub, Int.reduceMul, true_imp_iff, forall_const, Nat.mul_one, Int.reduceToNat, Nat.reducePow, Int.reducePow, Bool.true_and, Bool.false_and, Bool.and_false, hf, hlt']
      refine (tawake_ok hU).mono ?_
      rintro v σ' ⟨rfl, rfl⟩
      simp (disch := first | assumption | omega | (simp only [List.length_append, List.length_cons, List.length_nil]; omega)) only [go_sem, reduceCtorEq, Nat.reduceEqDiff, Nat.reduceAdd, Nat.reduceSub, Nat.reduceMul, Nat.reduceLeDiff, Int.reduceLT, Int.reduceLE, Int.reduceEq, ↓reduceIte, Int.reduceNeg, Int.reduceAdd, Int.reduceSub, Int.reduceMul, true_imp_iff, forall_const, Nat.mul_one, Int.reduceToNat, Nat.reducePow, Int.reducePow, Bool.true_and, Bool.false_and, Bool.and_false]
      exact retC_by (Drop.refl _) (.refl _) ⟨rfl, rfl⟩
  rcases law with ⟨j, hj, h1, h2⟩ | ⟨ts, E, E', h3l, h3, k1, k2, k3, k4, h1, h2⟩
  · rw [h1, h2]
    have e5 : ((b.length + j : Nat) : Int) = j + i := by omega
    simp (disch := first | assumption | omega | (simp only [List.length_append, List.length_cons, List.length_nil]; omega)) only [go_sem, reduceCtorEq, Nat.reduceEqDiff, Nat.reduceAdd, Nat.reduceSub, Nat.reduceMul, Nat.reduceLeDiff, Int.reduceLT, Int.reduceLE, Int.reduceEq, ↓reduceIte, Int.reduceNeg, Int.reduceAdd, Int.reduceSub, Int.reduceMul, true_imp_iff, forall_const, Nat.mul_one, Int.reduceToNat, Nat.reducePow, Int.reducePow, Bool.true_and, Bool.false_and, Bool.and_false, hf, e5, ←hG]
    refine fin [] [] _ (by simp) (fun j hj => by simp at hj) ?_
    simp (disch := first | assumption | omega | (simp only [List.length_append, List.length_cons, List.length_nil]; omega)) only [go_sem, reduceCtorEq, Nat.reduceEqDiff, Nat.reduceAdd, Nat.reduceSub, Nat.reduceMul, Nat.reduceLeDiff, Int.reduceLT, Int.reduceLE, Int.reduceEq, ↓reduceIte, Int.reduceNeg, Int.reduceAdd, Int.reduceSub, Int.reduceMul, true_imp_iff, forall_const, Nat.mul_one, Int.reduceToNat, Nat.reducePow, Int.reducePow, Bool.true_and, Bool.false_and, Bool.and_false, hf]
  · rw [h1, h2]
    have e5 : ((ts ++ [E]).map tokAV).length = ts.length + 1 := by simp
    have e6 : ((ts.map (Tok.sh i i) ++ [E']).map tokAV).length = ts.length + 1 := by simp
    obtain ⟨L, hLe⟩ : ∃ L, ts ++ [E] = L := ⟨_, rfl⟩
    obtain ⟨M, hMe⟩ : ∃ M, ts.map (Tok.sh i i) ++ [E'] = M := ⟨_, rfl⟩
    rw [hLe] at e5 ⊢
    rw [hMe] at e6 ⊢
    simp (disch := first | assumption | omega | (simp only [List.length_append, List.length_cons, List.length_nil]; omega)) only [go_sem, reduceCtorEq, Nat.reduceEqDiff, Nat.reduceAdd, Nat.reduceSub, Nat.reduceMul, Nat.reduceLeDiff, Int.reduceLT, Int.reduceLE, Int.reduceEq, ↓reduceIte, Int.reduceNeg, Int.reduceAdd, Int.reduceSub, Int.reduceMul, true_imp_iff, forall_const, Nat.mul_one, Int.reduceToNat, Nat.reducePow, Int.reducePow, Bool.true_and, Bool.false_and, Bool.and_false, hf, e5, e6, ←hG]
    refine fin L M _ (by rw [← hLe]; simp; omega) (fun j hj => ?_) ?_
    · rw [← hLe, ← hMe]
      rw [← hLe] at hj
      simp only [List.length_append, List.length_cons, List.length_nil] at hj
      by_cases hjt : j < ts.length
      · obtain ⟨t, ht⟩ : ∃ t, ts[j]'hjt = t := ⟨_, rfl⟩
        have ht2 := h3 t (by rw [← ht]; exact List.getElem_mem hjt)
        refine ⟨t.kind, t.text, t.at', t.col, t.at' + i, t.col + i, ?_, ?_, .inr ⟨by omega, by omega, rfl, rfl⟩⟩
        · rw [List.getElem?_append_left hjt, List.getElem?_eq_getElem hjt, ht]
        · rw [List.getElem?_append_left (by simpa using hjt), List.getElem?_map, List.getElem?_eq_getElem hjt, ht]
          rfl
      · obtain rfl : j = ts.length := by omega
        refine ⟨0, [], E.at', E.col, E'.at', E'.col, ?_, ?_, .inl rfl⟩
        · rw [List.getElem?_append_right (by omega), Nat.sub_self, ← k1, ← k3]; rfl
        · rw [List.getElem?_append_right (by simp), List.length_map, Nat.sub_self, ← k2, ← k4]; rfl
    · simp (disch := first | assumption | omega | (simp only [List.length_append, List.length_cons, List.length_nil]; omega)) only [go_sem, reduceCtorEq, Nat.reduceEqDiff, Nat.reduceAdd, Nat.reduceSub, Nat.reduceMul, Nat.reduceLeDiff, Int.reduceLT, Int.reduceLE, Int.reduceEq, ↓reduceIte, Int.reduceNeg, Int.reduceAdd, Int.reduceSub, Int.reduceMul, true_imp_iff, forall_const, Nat.mul_one, Int.reduceToNat, Nat.reducePow, Int.reducePow, Bool.true_and, Bool.false_and, Bool.and_false, hf]
end Go.A
