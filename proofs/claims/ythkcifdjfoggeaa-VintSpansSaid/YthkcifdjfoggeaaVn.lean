/- A thing that is put, walked. -/
import Derived.Test.YthkcifdjfoggeaaVj
namespace Go.A
open Go.Proofs Go.Vint
set_option maxRecDepth 100000
set_option linter.unusedSimpArgs false
set_option linter.unusedVariables false

structure Thing where
  kind : Int
  n : Int
  u : Int
  s : List UInt8
  l : List Int
def thingV (t : Thing) : AV := .agg [.int .i64 t.kind, .int .i64 t.n, .int .u64 t.u, .str t.s, .sl .shr (t.l.map (AV.int .u64))]
structure Thing.ok (t : Thing) : Prop where
  n1 : -9223372036854775808 ≤ t.n
  n2 : t.n ≤ 9223372036854775807
  u1 : 0 ≤ t.u
  u2 : t.u ≤ 18446744073709551615
  l1 : t.l.length ≤ 9223372036854775807
  l2 : ∀ x ∈ t.l, 0 ≤ x ∧ x ≤ 18446744073709551615
def putB (t : Thing) : List UInt8 :=
  if t.kind = 1 then uintB t.u.toNat else if t.kind = 2 then uintB (foldI t.n).toNat else if t.kind = 3 then textB (t.s.take 200)
  else if t.kind = 4 then risingB (risingL t.l) else if t.kind = 5 then spansB (spansL t.l) else []
theorem spansL_rises {L : List Int} (h : ∀ x ∈ L, 0 ≤ x ∧ x ≤ 18446744073709551615) : Rises (flat (spansL L)) := flat_pairs_rises (risingL_rises h)
theorem putB_len {t : Thing} (h : t.ok) : (putB t).length ≤ 210 := by
  obtain ⟨n1, n2, u1, u2, l1, l2⟩ := h
  have h1 := uintB_le u2
  have h2 := uintB_le (foldI_bd n1 n2).2
  have h3 := uintB_le (u := (t.s.take 200).length) (by simp; omega)
  have h4 := risingB_len (risingL_rises l2) (by have := risingL_len t.l; omega)
  have h5 := spansB_len (spansL_rises l2) (by have := spansL_len t.l; omega)
  have h6 := risingL_len t.l
  have h7 := spansL_len t.l
  unfold putB
  split
  · omega
  · split
    · omega
    · split
      · unfold textB
        rw [Int.toNat_natCast] at h3
        rw [List.length_append]
        simp only [List.length_take] at h3 ⊢
        omega
      · split
        · omega
        · split
          · omega
          · simp
set_option maxHeartbeats 1000000 in
theorem put_ok (σ0 : ASt) (b : Nat) (t : Thing) (l : List UInt8) (σ : ASt) (hW : W σ0 b l σ) (ht : t.ok) (hl : l.length ≤ 10000) :
    ACalls Try.prog 10 [.ptr b 0, thingV t] σ fun v σ' => v = .str (putB t) ∧ W σ0 b (l ++ putB t) σ' := by
  refine a10 (by simp) ?_
  obtain ⟨q, hq⟩ : ∃ q, putB t = q := ⟨_, rfl⟩
  rw [hq]
  unfold putB at hq
  obtain ⟨n1, n2, u1, u2, l1, l2⟩ := ht
  have hrl := risingL_len t.l
  have hrr := risingL_rises l2
  have hsl := spansL_len t.l
  have hsr := spansL_rises l2
  obtain ⟨kind, n, u, s, L⟩ := t
  dsimp only at *
  simp (disch := first | assumption | omega | (simp only [List.length_append]; omega)) only [go_sem, reduceCtorEq, Nat.reduceEqDiff, Nat.reduceAdd, Nat.reduceSub, Nat.reduceMul, Nat.reduceLeDiff, Int.reduceLT, Int.reduceLE, Int.reduceEq, ↓reduceIte, Int.reduceNeg, Int.reduceAdd, Int.reduceSub, Int.reduceMul, true_imp_iff, forall_const, Nat.mul_one, Int.reduceToNat, Nat.reducePow, Int.reducePow, Bool.true_and, Bool.false_and, Bool.and_false, thingV]
  refine boxC_by rfl fun c hc => ?_
  simp (disch := first | assumption | omega | (simp only [List.length_append]; omega)) only [go_sem, reduceCtorEq, Nat.reduceEqDiff, Nat.reduceAdd, Nat.reduceSub, Nat.reduceMul, Nat.reduceLeDiff, Int.reduceLT, Int.reduceLE, Int.reduceEq, ↓reduceIte, Int.reduceNeg, Int.reduceAdd, Int.reduceSub, Int.reduceMul, true_imp_iff, forall_const, Nat.mul_one, Int.reduceToNat, Nat.reducePow, Int.reducePow, Bool.true_and, Bool.false_and, Bool.and_false]
  refine (cut_ok s 200).use ?_
  have hsn : (s.take 200).length ≤ 200 := by simp; omega
  generalize s.take 200 = s at *
  obtain ⟨hWa, hcb, hc0⟩ := hW.add hc (r := .obj [.int .i64 kind, .int .i64 n, .int .u64 u, .str s, .sl .shr (L.map (AV.int .u64))])
  by_cases k1 : kind = 1
  · rw [if_pos k1] at hq
    subst hq
    simp (disch := first | assumption | omega | (simp only [List.length_append]; omega)) only [go_sem, reduceCtorEq, Nat.reduceEqDiff, Nat.reduceAdd, Nat.reduceSub, Nat.reduceMul, Nat.reduceLeDiff, Int.reduceLT, Int.reduceLE, Int.reduceEq, ↓reduceIte, Int.reduceNeg, Int.reduceAdd, Int.reduceSub, Int.reduceMul, true_imp_iff, forall_const, Nat.mul_one, Int.reduceToNat, Nat.reducePow, Int.reducePow, Bool.true_and, Bool.false_and, Bool.and_false, k1]
    rw [k1] at hWa
    refine (wuint_ok _ b u l _ hWa u1 u2 (by have := uintB_le u2; omega)).mono ?_
    rintro v σ1 ⟨rfl, hW1⟩
    have hc1 := hW1.role hcb
    simp (disch := first | assumption | omega | (simp only [List.length_append]; omega)) only [go_sem, reduceCtorEq, Nat.reduceEqDiff, Nat.reduceAdd, Nat.reduceSub, Nat.reduceMul, Nat.reduceLeDiff, Int.reduceLT, Int.reduceLE, Int.reduceEq, ↓reduceIte, Int.reduceNeg, Int.reduceAdd, Int.reduceSub, Int.reduceMul, true_imp_iff, forall_const, Nat.mul_one, Int.reduceToNat, Nat.reducePow, Int.reducePow, Bool.true_and, Bool.false_and, Bool.and_false, hc1]
    refine (refUint_ok' u u1 u2).use ?_
    simp (disch := first | assumption | omega | (simp only [List.length_append]; omega)) only [go_sem, reduceCtorEq, Nat.reduceEqDiff, Nat.reduceAdd, Nat.reduceSub, Nat.reduceMul, Nat.reduceLeDiff, Int.reduceLT, Int.reduceLE, Int.reduceEq, ↓reduceIte, Int.reduceNeg, Int.reduceAdd, Int.reduceSub, Int.reduceMul, true_imp_iff, forall_const, Nat.mul_one, Int.reduceToNat, Nat.reducePow, Int.reducePow, Bool.true_and, Bool.false_and, Bool.and_false]
    obtain ⟨σ2, hd, hW2, _⟩ := hW1.off hcb hc0
    exact retC_by hd (.refl _) ⟨rfl, hW2⟩
  rw [if_neg k1] at hq
  by_cases k2 : kind = 2
  · rw [if_pos k2] at hq
    subst hq
    simp (disch := first | assumption | omega | (simp only [List.length_append]; omega)) only [go_sem, reduceCtorEq, Nat.reduceEqDiff, Nat.reduceAdd, Nat.reduceSub, Nat.reduceMul, Nat.reduceLeDiff, Int.reduceLT, Int.reduceLE, Int.reduceEq, ↓reduceIte, Int.reduceNeg, Int.reduceAdd, Int.reduceSub, Int.reduceMul, true_imp_iff, forall_const, Nat.mul_one, Int.reduceToNat, Nat.reducePow, Int.reducePow, Bool.true_and, Bool.false_and, Bool.and_false, k2]
    rw [k2] at hWa
    refine (wint_ok _ b n l _ hWa n1 n2 (by omega)).mono ?_
    rintro v σ1 ⟨rfl, hW1⟩
    have hc1 := hW1.role hcb
    simp (disch := first | assumption | omega | (simp only [List.length_append]; omega)) only [go_sem, reduceCtorEq, Nat.reduceEqDiff, Nat.reduceAdd, Nat.reduceSub, Nat.reduceMul, Nat.reduceLeDiff, Int.reduceLT, Int.reduceLE, Int.reduceEq, ↓reduceIte, Int.reduceNeg, Int.reduceAdd, Int.reduceSub, Int.reduceMul, true_imp_iff, forall_const, Nat.mul_one, Int.reduceToNat, Nat.reducePow, Int.reducePow, Bool.true_and, Bool.false_and, Bool.and_false, hc1]
    refine (refFold_ok n n1 n2).use ?_
    simp (disch := first | assumption | omega | (simp only [List.length_append]; omega)) only [go_sem, reduceCtorEq, Nat.reduceEqDiff, Nat.reduceAdd, Nat.reduceSub, Nat.reduceMul, Nat.reduceLeDiff, Int.reduceLT, Int.reduceLE, Int.reduceEq, ↓reduceIte, Int.reduceNeg, Int.reduceAdd, Int.reduceSub, Int.reduceMul, true_imp_iff, forall_const, Nat.mul_one, Int.reduceToNat, Nat.reducePow, Int.reducePow, Bool.true_and, Bool.false_and, Bool.and_false]
    refine (refUint_ok' _ (foldI_bd n1 n2).1 (foldI_bd n1 n2).2).use ?_
    simp (disch := first | assumption | omega | (simp only [List.length_append]; omega)) only [go_sem, reduceCtorEq, Nat.reduceEqDiff, Nat.reduceAdd, Nat.reduceSub, Nat.reduceMul, Nat.reduceLeDiff, Int.reduceLT, Int.reduceLE, Int.reduceEq, ↓reduceIte, Int.reduceNeg, Int.reduceAdd, Int.reduceSub, Int.reduceMul, true_imp_iff, forall_const, Nat.mul_one, Int.reduceToNat, Nat.reducePow, Int.reducePow, Bool.true_and, Bool.false_and, Bool.and_false]
    obtain ⟨σ2, hd, hW2, _⟩ := hW1.off hcb hc0
    exact retC_by hd (.refl _) ⟨rfl, hW2⟩
  rw [if_neg k2] at hq
  by_cases k3 : kind = 3
  · rw [if_pos k3] at hq
    subst hq
    simp (disch := first | assumption | omega | (simp only [List.length_append]; omega)) only [go_sem, reduceCtorEq, Nat.reduceEqDiff, Nat.reduceAdd, Nat.reduceSub, Nat.reduceMul, Nat.reduceLeDiff, Int.reduceLT, Int.reduceLE, Int.reduceEq, ↓reduceIte, Int.reduceNeg, Int.reduceAdd, Int.reduceSub, Int.reduceMul, true_imp_iff, forall_const, Nat.mul_one, Int.reduceToNat, Nat.reducePow, Int.reducePow, Bool.true_and, Bool.false_and, Bool.and_false, k3]
    rw [k3] at hWa
    refine (wtext_ok _ b s l _ hWa (by omega)).mono ?_
    rintro v σ1 ⟨rfl, hW1⟩
    have hc1 := hW1.role hcb
    simp (disch := first | assumption | omega | (simp only [List.length_append]; omega)) only [go_sem, reduceCtorEq, Nat.reduceEqDiff, Nat.reduceAdd, Nat.reduceSub, Nat.reduceMul, Nat.reduceLeDiff, Int.reduceLT, Int.reduceLE, Int.reduceEq, ↓reduceIte, Int.reduceNeg, Int.reduceAdd, Int.reduceSub, Int.reduceMul, true_imp_iff, forall_const, Nat.mul_one, Int.reduceToNat, Nat.reducePow, Int.reducePow, Bool.true_and, Bool.false_and, Bool.and_false, hc1]
    refine (refText_ok s (by omega)).use ?_
    simp (disch := first | assumption | omega | (simp only [List.length_append]; omega)) only [go_sem, reduceCtorEq, Nat.reduceEqDiff, Nat.reduceAdd, Nat.reduceSub, Nat.reduceMul, Nat.reduceLeDiff, Int.reduceLT, Int.reduceLE, Int.reduceEq, ↓reduceIte, Int.reduceNeg, Int.reduceAdd, Int.reduceSub, Int.reduceMul, true_imp_iff, forall_const, Nat.mul_one, Int.reduceToNat, Nat.reducePow, Int.reducePow, Bool.true_and, Bool.false_and, Bool.and_false]
    obtain ⟨σ2, hd, hW2, _⟩ := hW1.off hcb hc0
    exact retC_by hd (.refl _) ⟨rfl, hW2⟩
  rw [if_neg k3] at hq
  by_cases k4 : kind = 4
  · rw [if_pos k4] at hq
    subst hq
    simp (disch := first | assumption | omega | (simp only [List.length_append]; omega)) only [go_sem, reduceCtorEq, Nat.reduceEqDiff, Nat.reduceAdd, Nat.reduceSub, Nat.reduceMul, Nat.reduceLeDiff, Int.reduceLT, Int.reduceLE, Int.reduceEq, ↓reduceIte, Int.reduceNeg, Int.reduceAdd, Int.reduceSub, Int.reduceMul, true_imp_iff, forall_const, Nat.mul_one, Int.reduceToNat, Nat.reducePow, Int.reducePow, Bool.true_and, Bool.false_and, Bool.and_false, k4]
    rw [k4] at hWa
    refine (rising_ok L l1).use ?_
    simp (disch := first | assumption | omega | (simp only [List.length_append]; omega)) only [go_sem, reduceCtorEq, Nat.reduceEqDiff, Nat.reduceAdd, Nat.reduceSub, Nat.reduceMul, Nat.reduceLeDiff, Int.reduceLT, Int.reduceLE, Int.reduceEq, ↓reduceIte, Int.reduceNeg, Int.reduceAdd, Int.reduceSub, Int.reduceMul, true_imp_iff, forall_const, Nat.mul_one, Int.reduceToNat, Nat.reducePow, Int.reducePow, Bool.true_and, Bool.false_and, Bool.and_false]
    refine (wrising_ok _ b (risingL L) l _ hWa hrr (by omega) (by omega)).mono ?_
    rintro v σ1 ⟨rfl, hW1⟩
    have hc1 := hW1.role hcb
    simp (disch := first | assumption | omega | (simp only [List.length_append]; omega)) only [go_sem, reduceCtorEq, Nat.reduceEqDiff, Nat.reduceAdd, Nat.reduceSub, Nat.reduceMul, Nat.reduceLeDiff, Int.reduceLT, Int.reduceLE, Int.reduceEq, ↓reduceIte, Int.reduceNeg, Int.reduceAdd, Int.reduceSub, Int.reduceMul, true_imp_iff, forall_const, Nat.mul_one, Int.reduceToNat, Nat.reducePow, Int.reducePow, Bool.true_and, Bool.false_and, Bool.and_false, hc1]
    refine (rising_ok L l1).use ?_
    simp (disch := first | assumption | omega | (simp only [List.length_append]; omega)) only [go_sem, reduceCtorEq, Nat.reduceEqDiff, Nat.reduceAdd, Nat.reduceSub, Nat.reduceMul, Nat.reduceLeDiff, Int.reduceLT, Int.reduceLE, Int.reduceEq, ↓reduceIte, Int.reduceNeg, Int.reduceAdd, Int.reduceSub, Int.reduceMul, true_imp_iff, forall_const, Nat.mul_one, Int.reduceToNat, Nat.reducePow, Int.reducePow, Bool.true_and, Bool.false_and, Bool.and_false]
    refine (refRising_ok _ hrr (by omega)).use ?_
    simp (disch := first | assumption | omega | (simp only [List.length_append]; omega)) only [go_sem, reduceCtorEq, Nat.reduceEqDiff, Nat.reduceAdd, Nat.reduceSub, Nat.reduceMul, Nat.reduceLeDiff, Int.reduceLT, Int.reduceLE, Int.reduceEq, ↓reduceIte, Int.reduceNeg, Int.reduceAdd, Int.reduceSub, Int.reduceMul, true_imp_iff, forall_const, Nat.mul_one, Int.reduceToNat, Nat.reducePow, Int.reducePow, Bool.true_and, Bool.false_and, Bool.and_false]
    obtain ⟨σ2, hd, hW2, _⟩ := hW1.off hcb hc0
    exact retC_by hd (.refl _) ⟨rfl, hW2⟩
  rw [if_neg k4] at hq
  by_cases k5 : kind = 5
  · rw [if_pos k5] at hq
    subst hq
    simp (disch := first | assumption | omega | (simp only [List.length_append]; omega)) only [go_sem, reduceCtorEq, Nat.reduceEqDiff, Nat.reduceAdd, Nat.reduceSub, Nat.reduceMul, Nat.reduceLeDiff, Int.reduceLT, Int.reduceLE, Int.reduceEq, ↓reduceIte, Int.reduceNeg, Int.reduceAdd, Int.reduceSub, Int.reduceMul, true_imp_iff, forall_const, Nat.mul_one, Int.reduceToNat, Nat.reducePow, Int.reducePow, Bool.true_and, Bool.false_and, Bool.and_false, k5]
    rw [k5] at hWa
    refine (spans_ok L l1).use ?_
    simp (disch := first | assumption | omega | (simp only [List.length_append]; omega)) only [go_sem, reduceCtorEq, Nat.reduceEqDiff, Nat.reduceAdd, Nat.reduceSub, Nat.reduceMul, Nat.reduceLeDiff, Int.reduceLT, Int.reduceLE, Int.reduceEq, ↓reduceIte, Int.reduceNeg, Int.reduceAdd, Int.reduceSub, Int.reduceMul, true_imp_iff, forall_const, Nat.mul_one, Int.reduceToNat, Nat.reducePow, Int.reducePow, Bool.true_and, Bool.false_and, Bool.and_false]
    refine (wspans_ok _ b (spansL L) l _ hWa hsr (by omega) (by omega)).mono ?_
    rintro v σ1 ⟨rfl, hW1⟩
    have hc1 := hW1.role hcb
    simp (disch := first | assumption | omega | (simp only [List.length_append]; omega)) only [go_sem, reduceCtorEq, Nat.reduceEqDiff, Nat.reduceAdd, Nat.reduceSub, Nat.reduceMul, Nat.reduceLeDiff, Int.reduceLT, Int.reduceLE, Int.reduceEq, ↓reduceIte, Int.reduceNeg, Int.reduceAdd, Int.reduceSub, Int.reduceMul, true_imp_iff, forall_const, Nat.mul_one, Int.reduceToNat, Nat.reducePow, Int.reducePow, Bool.true_and, Bool.false_and, Bool.and_false, hc1]
    refine (spans_ok L l1).use ?_
    simp (disch := first | assumption | omega | (simp only [List.length_append]; omega)) only [go_sem, reduceCtorEq, Nat.reduceEqDiff, Nat.reduceAdd, Nat.reduceSub, Nat.reduceMul, Nat.reduceLeDiff, Int.reduceLT, Int.reduceLE, Int.reduceEq, ↓reduceIte, Int.reduceNeg, Int.reduceAdd, Int.reduceSub, Int.reduceMul, true_imp_iff, forall_const, Nat.mul_one, Int.reduceToNat, Nat.reducePow, Int.reducePow, Bool.true_and, Bool.false_and, Bool.and_false]
    refine (told_ok _ (by omega)).use ?_
    simp (disch := first | assumption | omega | (simp only [List.length_append]; omega)) only [go_sem, reduceCtorEq, Nat.reduceEqDiff, Nat.reduceAdd, Nat.reduceSub, Nat.reduceMul, Nat.reduceLeDiff, Int.reduceLT, Int.reduceLE, Int.reduceEq, ↓reduceIte, Int.reduceNeg, Int.reduceAdd, Int.reduceSub, Int.reduceMul, true_imp_iff, forall_const, Nat.mul_one, Int.reduceToNat, Nat.reducePow, Int.reducePow, Bool.true_and, Bool.false_and, Bool.and_false]
    refine (refSpans_ok _ hsr (by omega)).use ?_
    simp (disch := first | assumption | omega | (simp only [List.length_append]; omega)) only [go_sem, reduceCtorEq, Nat.reduceEqDiff, Nat.reduceAdd, Nat.reduceSub, Nat.reduceMul, Nat.reduceLeDiff, Int.reduceLT, Int.reduceLE, Int.reduceEq, ↓reduceIte, Int.reduceNeg, Int.reduceAdd, Int.reduceSub, Int.reduceMul, true_imp_iff, forall_const, Nat.mul_one, Int.reduceToNat, Nat.reducePow, Int.reducePow, Bool.true_and, Bool.false_and, Bool.and_false]
    obtain ⟨σ2, hd, hW2, _⟩ := hW1.off hcb hc0
    exact retC_by hd (.refl _) ⟨rfl, hW2⟩
  rw [if_neg k5] at hq
  subst hq
  simp (disch := first | assumption | omega | (simp only [List.length_append]; omega)) only [go_sem, reduceCtorEq, Nat.reduceEqDiff, Nat.reduceAdd, Nat.reduceSub, Nat.reduceMul, Nat.reduceLeDiff, Int.reduceLT, Int.reduceLE, Int.reduceEq, ↓reduceIte, Int.reduceNeg, Int.reduceAdd, Int.reduceSub, Int.reduceMul, true_imp_iff, forall_const, Nat.mul_one, Int.reduceToNat, Nat.reducePow, Int.reducePow, Bool.true_and, Bool.false_and, Bool.and_false, k1, k2, k3, k4, k5]
  obtain ⟨σ2, hd, hW2, _⟩ := hWa.off hcb hc0
  refine retC_by hd (.refl _) ⟨rfl, ?_⟩
  exact hW2
end Go.A
