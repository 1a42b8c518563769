/- GCD and LCM; calls of maths by name. -/
import Derived.Test.YtmefepbdognkdaaDoorJd
import Derived.Test.YtmefepbdognkdaaDoorCodeJ
namespace Go.A
open Go.Proofs
set_option maxRecDepth 100000
set_option linter.unusedSimpArgs false
set_option linter.unusedVariables false

/-- GCD (true) or LCM: what stands so far; nothing: it fails. -/
def manyS (g : Bool) : Int → List Int → Option Int
  | n, [] => some n
  | n, a :: l =>
    if a < 0 then none
    else if n < 0 then manyS g (a.tdiv 10000) l
    else if g = true then manyS g (Nat.gcd n.toNat (a.tdiv 10000).toNat : Nat) l
    else if n = 0 ∨ a.tdiv 10000 = 0 then manyS g 0 l
    else (mulD (n / (Nat.gcd n.toNat (a.tdiv 10000).toNat : Nat) * 10000) (a.tdiv 10000 * 10000)).bind fun p => manyS g (p.tdiv 10000) l
def manyP (g : Bool) (l : List Int) : PV :=
  match manyS g (-1) l with
  | some n => cntP (intP n)
  | none => .fail 2
set_option maxHeartbeats 2000000 in
theorem many_ok (s : List UInt8) (N : List Int) (hn : N.length ≤ 1000) (hN : ∀ a ∈ N, a.natAbs ≤ 999999999999999999) : Pure Tryd.prog 49 [.str s, .sl .shr (N.map (AV.int .i64))] (manyP (decide (s = [71, 67, 68])) N).av := by
  intro σ
  obtain ⟨g, hg⟩ : ∃ g, decide (s = [71, 67, 68]) = g := ⟨_, rfl⟩
  rw [hg]
  obtain ⟨R, hR⟩ : ∃ R, manyS g (-1) N = R := ⟨_, rfl⟩
  unfold manyP
  rw [hR]
  refine a49 (by simp) ?_
  simp (disch := first | assumption | omega | (simp only [List.length_append, List.length_cons, List.length_nil]; omega)) only [go_sem, reduceCtorEq, Nat.reduceEqDiff, Nat.reduceAdd, Nat.reduceSub, Nat.reduceMul, Nat.reduceLeDiff, Int.reduceLT, Int.reduceLE, Int.reduceEq, ↓reduceIte, Int.reduceNeg, Int.reduceAdd, Int.reduceSub, Int.reduceMul, true_imp_iff, forall_const, Nat.mul_one, Int.reduceToNat, Nat.reducePow, Int.reducePow, Bool.true_and, Bool.false_and, Bool.and_false]
  refine wp_loop_on (fun (i : Nat) a1 s2 => i ≤ N.length ∧ (∃ n : Int, R = manyS g n (N.drop i) ∧ -1 ≤ n ∧ n ≤ 99999999999999 ∧ a1 5 = .int .i64 n) ∧ (a1 0 = .str s ∧ a1 15 = .sl .shr (N.map (AV.int .i64)) ∧ a1 16 = .int .i64 N.length ∧ a1 17 = .int .i64 i) ∧ s2 = σ) (fun i => N.length - i) 0 ⟨Nat.zero_le _, ⟨-1, hR.symm, by omega, by omega, ?_⟩, ?_, rfl⟩ ?_
  · simp (disch := first | assumption | omega | (simp only [List.length_append, List.length_cons, List.length_nil]; omega)) only [go_sem, reduceCtorEq, Nat.reduceEqDiff, Nat.reduceAdd, Nat.reduceSub, Nat.reduceMul, Nat.reduceLeDiff, Int.reduceLT, Int.reduceLE, Int.reduceEq, ↓reduceIte, Int.reduceNeg, Int.reduceAdd, Int.reduceSub, Int.reduceMul, true_imp_iff, forall_const, Nat.mul_one, Int.reduceToNat, Nat.reducePow, Int.reducePow, Bool.true_and, Bool.false_and, Bool.and_false]
  · simp (disch := first | assumption | omega | (simp only [List.length_append, List.length_cons, List.length_nil]; omega)) only [go_sem, reduceCtorEq, Nat.reduceEqDiff, Nat.reduceAdd, Nat.reduceSub, Nat.reduceMul, Nat.reduceLeDiff, Int.reduceLT, Int.reduceLE, Int.reduceEq, ↓reduceIte, Int.reduceNeg, Int.reduceAdd, Int.reduceSub, Int.reduceMul, true_imp_iff, forall_const, Nat.mul_one, Int.reduceToNat, Nat.reducePow, Int.reducePow, Bool.true_and, Bool.false_and, Bool.and_false]
  rintro i a1 s2 ⟨hi, ⟨n, hm, hn1, hn2, h5⟩, hf, rfl⟩
  by_cases hlt : i < N.length
  · have hlt' : (i : Int) < N.length := by omega
    have hx : N[i]? = some (N[i]'hlt) := List.getElem?_eq_getElem hlt
    rw [List.drop_eq_getElem_cons hlt] at hm
    have hb := hN _ (List.getElem_mem hlt)
    obtain ⟨x, hxe⟩ : ∃ x, N[i]'hlt = x := ⟨_, rfl⟩
    rw [hxe] at hx hm hb
    have hidx : (N.map (AV.int .i64))[i]? = some (.int .i64 x) := by rw [List.getElem?_map, hx]; rfl
    have hW := whole_ok hb
    rw [manyS] at hm
    have hkb : (x.tdiv 10000).natAbs ≤ 99999999999999 := by
      rw [Int.natAbs_tdiv]
      show x.natAbs / 10000 ≤ _
      omega
    have hk0 : 0 ≤ x → 0 ≤ x.tdiv 10000 := fun h => Int.tdiv_nonneg h (by omega)
    generalize x.tdiv 10000 = k at *
    by_cases c1 : x < 0
    · rw [if_pos c1] at hm
      subst hm
      simp only [PV.av]
      simp (disch := first | assumption | omega | (simp only [List.length_append, List.length_cons, List.length_nil]; omega)) only [go_sem, reduceCtorEq, Nat.reduceEqDiff, Nat.reduceAdd, Nat.reduceSub, Nat.reduceMul, Nat.reduceLeDiff, Int.reduceLT, Int.reduceLE, Int.reduceEq, ↓reduceIte, Int.reduceNeg, Int.reduceAdd, Int.reduceSub, Int.reduceMul, true_imp_iff, forall_const, Nat.mul_one, Int.reduceToNat, Nat.reducePow, Int.reducePow, Bool.true_and, Bool.false_and, Bool.and_false, hf, h5, hlt', hidx]
      refine hW.use ?_
      simp (disch := first | assumption | omega | (simp only [List.length_append, List.length_cons, List.length_nil]; omega)) only [go_sem, reduceCtorEq, Nat.reduceEqDiff, Nat.reduceAdd, Nat.reduceSub, Nat.reduceMul, Nat.reduceLeDiff, Int.reduceLT, Int.reduceLE, Int.reduceEq, ↓reduceIte, Int.reduceNeg, Int.reduceAdd, Int.reduceSub, Int.reduceMul, true_imp_iff, forall_const, Nat.mul_one, Int.reduceToNat, Nat.reducePow, Int.reducePow, Bool.true_and, Bool.false_and, Bool.and_false, c1]
      exact retC_by (by repeat' (first | exact Drop.refl _ | with_reducible refine Drop.off ?_ (by assumption))) (.refl _) ⟨rfl, rfl⟩
    rw [if_neg c1] at hm
    have hk := hk0 (by omega)
    by_cases c2 : n < 0
    · rw [if_pos c2] at hm
      simp (disch := first | assumption | omega | (simp only [List.length_append, List.length_cons, List.length_nil]; omega)) only [go_sem, reduceCtorEq, Nat.reduceEqDiff, Nat.reduceAdd, Nat.reduceSub, Nat.reduceMul, Nat.reduceLeDiff, Int.reduceLT, Int.reduceLE, Int.reduceEq, ↓reduceIte, Int.reduceNeg, Int.reduceAdd, Int.reduceSub, Int.reduceMul, true_imp_iff, forall_const, Nat.mul_one, Int.reduceToNat, Nat.reducePow, Int.reducePow, Bool.true_and, Bool.false_and, Bool.and_false, hf, h5, hlt', hidx]
      refine hW.use ?_
      simp (disch := first | assumption | omega | (simp only [List.length_append, List.length_cons, List.length_nil]; omega)) only [go_sem, reduceCtorEq, Nat.reduceEqDiff, Nat.reduceAdd, Nat.reduceSub, Nat.reduceMul, Nat.reduceLeDiff, Int.reduceLT, Int.reduceLE, Int.reduceEq, ↓reduceIte, Int.reduceNeg, Int.reduceAdd, Int.reduceSub, Int.reduceMul, true_imp_iff, forall_const, Nat.mul_one, Int.reduceToNat, Nat.reducePow, Int.reducePow, Bool.true_and, Bool.false_and, Bool.and_false, hf, h5, c1, c2]
      exact ⟨i + 1, by omega, by omega, ⟨k, hm, by omega, by omega, rfl⟩, rfl⟩
    rw [if_neg c2] at hm
    obtain ⟨u, hu⟩ : ∃ u, n.toNat = u := ⟨_, rfl⟩
    obtain ⟨v, hv⟩ : ∃ v, k.toNat = v := ⟨_, rfl⟩
    have eu : n = u := by omega
    have ev : k = v := by omega
    have hD := divisor_ok u v (by omega) (by omega)
    rw [hu, hv] at hm
    rw [← eu, ← ev] at hD
    have hgl : 0 < u → Nat.gcd u v ≤ u := fun h => Nat.gcd_le_left _ h
    have hgr : 0 < v → Nat.gcd u v ≤ v := fun h => Nat.gcd_le_right _ h
    have hgp : 0 < u → 0 < Nat.gcd u v := fun h => Nat.gcd_pos_of_pos_left _ h
    have hg00 : u = 0 → v = 0 → Nat.gcd u v = 0 := by rintro rfl rfl; rfl
    generalize hG : Nat.gcd u v = G at *
    cases g with
    | true =>
      have hsn : s = [71, 67, 68] := of_decide_eq_true hg
      have hst : (s = [71, 67, 68]) = True := eq_true hsn
      rw [if_pos rfl] at hm
      simp (disch := first | assumption | omega | (simp only [List.length_append, List.length_cons, List.length_nil]; omega)) only [go_sem, reduceCtorEq, Nat.reduceEqDiff, Nat.reduceAdd, Nat.reduceSub, Nat.reduceMul, Nat.reduceLeDiff, Int.reduceLT, Int.reduceLE, Int.reduceEq, ↓reduceIte, Int.reduceNeg, Int.reduceAdd, Int.reduceSub, Int.reduceMul, true_imp_iff, forall_const, Nat.mul_one, Int.reduceToNat, Nat.reducePow, Int.reducePow, Bool.true_and, Bool.false_and, Bool.and_false, hf, h5, hlt', hidx]
      refine hW.use ?_
      simp (disch := first | assumption | omega | (simp only [List.length_append, List.length_cons, List.length_nil]; omega)) only [go_sem, reduceCtorEq, Nat.reduceEqDiff, Nat.reduceAdd, Nat.reduceSub, Nat.reduceMul, Nat.reduceLeDiff, Int.reduceLT, Int.reduceLE, Int.reduceEq, ↓reduceIte, Int.reduceNeg, Int.reduceAdd, Int.reduceSub, Int.reduceMul, true_imp_iff, forall_const, Nat.mul_one, Int.reduceToNat, Nat.reducePow, Int.reducePow, Bool.true_and, Bool.false_and, Bool.and_false, hf, h5, c1, c2, hst]
      refine hD.use ?_
      simp (disch := first | assumption | omega | (simp only [List.length_append, List.length_cons, List.length_nil]; omega)) only [go_sem, reduceCtorEq, Nat.reduceEqDiff, Nat.reduceAdd, Nat.reduceSub, Nat.reduceMul, Nat.reduceLeDiff, Int.reduceLT, Int.reduceLE, Int.reduceEq, ↓reduceIte, Int.reduceNeg, Int.reduceAdd, Int.reduceSub, Int.reduceMul, true_imp_iff, forall_const, Nat.mul_one, Int.reduceToNat, Nat.reducePow, Int.reducePow, Bool.true_and, Bool.false_and, Bool.and_false, hf, h5]
      exact ⟨i + 1, by omega, by omega, ⟨(G : Int), hm, by omega, by omega, rfl⟩, rfl⟩
    | false =>
      have hsn : ¬ s = [71, 67, 68] := of_decide_eq_false hg
      rw [if_neg (by simp)] at hm
      by_cases c3 : n = 0
      · rw [if_pos (.inl c3)] at hm
        simp (disch := first | assumption | omega | (simp only [List.length_append, List.length_cons, List.length_nil]; omega)) only [go_sem, reduceCtorEq, Nat.reduceEqDiff, Nat.reduceAdd, Nat.reduceSub, Nat.reduceMul, Nat.reduceLeDiff, Int.reduceLT, Int.reduceLE, Int.reduceEq, ↓reduceIte, Int.reduceNeg, Int.reduceAdd, Int.reduceSub, Int.reduceMul, true_imp_iff, forall_const, Nat.mul_one, Int.reduceToNat, Nat.reducePow, Int.reducePow, Bool.true_and, Bool.false_and, Bool.and_false, hf, h5, hlt', hidx]
        refine hW.use ?_
        simp (disch := first | assumption | omega | (simp only [List.length_append, List.length_cons, List.length_nil]; omega)) only [go_sem, reduceCtorEq, Nat.reduceEqDiff, Nat.reduceAdd, Nat.reduceSub, Nat.reduceMul, Nat.reduceLeDiff, Int.reduceLT, Int.reduceLE, Int.reduceEq, ↓reduceIte, Int.reduceNeg, Int.reduceAdd, Int.reduceSub, Int.reduceMul, true_imp_iff, forall_const, Nat.mul_one, Int.reduceToNat, Nat.reducePow, Int.reducePow, Bool.true_and, Bool.false_and, Bool.and_false, hf, h5, c1, c2, hsn, c3]
        exact ⟨i + 1, by omega, by omega, ⟨0, hm, by omega, by omega, rfl⟩, rfl⟩
      by_cases c4 : k = 0
      · rw [if_pos (.inr c4)] at hm
        simp (disch := first | assumption | omega | (simp only [List.length_append, List.length_cons, List.length_nil]; omega)) only [go_sem, reduceCtorEq, Nat.reduceEqDiff, Nat.reduceAdd, Nat.reduceSub, Nat.reduceMul, Nat.reduceLeDiff, Int.reduceLT, Int.reduceLE, Int.reduceEq, ↓reduceIte, Int.reduceNeg, Int.reduceAdd, Int.reduceSub, Int.reduceMul, true_imp_iff, forall_const, Nat.mul_one, Int.reduceToNat, Nat.reducePow, Int.reducePow, Bool.true_and, Bool.false_and, Bool.and_false, hf, h5, hlt', hidx]
        refine hW.use ?_
        simp (disch := first | assumption | omega | (simp only [List.length_append, List.length_cons, List.length_nil]; omega)) only [go_sem, reduceCtorEq, Nat.reduceEqDiff, Nat.reduceAdd, Nat.reduceSub, Nat.reduceMul, Nat.reduceLeDiff, Int.reduceLT, Int.reduceLE, Int.reduceEq, ↓reduceIte, Int.reduceNeg, Int.reduceAdd, Int.reduceSub, Int.reduceMul, true_imp_iff, forall_const, Nat.mul_one, Int.reduceToNat, Nat.reducePow, Int.reducePow, Bool.true_and, Bool.false_and, Bool.and_false, hf, h5, c1, c2, hsn, c3, c4]
        exact ⟨i + 1, by omega, by omega, ⟨0, hm, by omega, by omega, rfl⟩, rfl⟩
      rw [if_neg (by rintro (h | h) <;> contradiction)] at hm
      have hGp := hgp (by omega)
      have hGne : (G : Int) ≠ 0 := by omega
      have eq1 : n.tdiv (G : Int) = n / (G : Int) := Int.tdiv_eq_ediv_of_nonneg (by omega)
      have hqb : 0 ≤ n / (G : Int) ∧ n / (G : Int) ≤ n := ⟨Int.ediv_nonneg (by omega) (by omega), Int.ediv_le_self _ (by omega)⟩
      generalize n / (G : Int) = q at *
      have eq2 : IntKind.i64.wrap q = q := by rw [IntKind.wrap_i64]; omega
      have hI1 := int_ok q (by omega) (by omega)
      have hI2 := int_ok k (by omega) (by omega)
      unfold intP at hI1 hI2
      rw [if_pos (by omega)] at hI1 hI2
      simp only [resAV, Option.getD_some, Option.isSome_some] at hI1 hI2
      have hM := mul_ok (q * 10000) (k * 10000) (by omega) (by omega)
      cases ho : mulD (q * 10000) (k * 10000) with
      | none =>
        rw [ho] at hM hm
        rw [Option.bind_none] at hm
        subst hm
        simp only [resAV, Option.getD_none, Option.isSome_none] at hM
        simp only [PV.av]
        simp (disch := first | assumption | omega | (simp only [List.length_append, List.length_cons, List.length_nil]; omega)) only [go_sem, reduceCtorEq, Nat.reduceEqDiff, Nat.reduceAdd, Nat.reduceSub, Nat.reduceMul, Nat.reduceLeDiff, Int.reduceLT, Int.reduceLE, Int.reduceEq, ↓reduceIte, Int.reduceNeg, Int.reduceAdd, Int.reduceSub, Int.reduceMul, true_imp_iff, forall_const, Nat.mul_one, Int.reduceToNat, Nat.reducePow, Int.reducePow, Bool.true_and, Bool.false_and, Bool.and_false, hf, h5, hlt', hidx]
        refine hW.use ?_
        simp (disch := first | assumption | omega | (simp only [List.length_append, List.length_cons, List.length_nil]; omega)) only [go_sem, reduceCtorEq, Nat.reduceEqDiff, Nat.reduceAdd, Nat.reduceSub, Nat.reduceMul, Nat.reduceLeDiff, Int.reduceLT, Int.reduceLE, Int.reduceEq, ↓reduceIte, Int.reduceNeg, Int.reduceAdd, Int.reduceSub, Int.reduceMul, true_imp_iff, forall_const, Nat.mul_one, Int.reduceToNat, Nat.reducePow, Int.reducePow, Bool.true_and, Bool.false_and, Bool.and_false, hf, h5, c1, c2, hsn, c3, c4]
        refine hD.use ?_
        simp (disch := first | assumption | omega | (simp only [List.length_append, List.length_cons, List.length_nil]; omega)) only [go_sem, reduceCtorEq, Nat.reduceEqDiff, Nat.reduceAdd, Nat.reduceSub, Nat.reduceMul, Nat.reduceLeDiff, Int.reduceLT, Int.reduceLE, Int.reduceEq, ↓reduceIte, Int.reduceNeg, Int.reduceAdd, Int.reduceSub, Int.reduceMul, true_imp_iff, forall_const, Nat.mul_one, Int.reduceToNat, Nat.reducePow, Int.reducePow, Bool.true_and, Bool.false_and, Bool.and_false, hGne, eq1, eq2]
        refine hI1.use ?_
        simp (disch := first | assumption | omega | (simp only [List.length_append, List.length_cons, List.length_nil]; omega)) only [go_sem, reduceCtorEq, Nat.reduceEqDiff, Nat.reduceAdd, Nat.reduceSub, Nat.reduceMul, Nat.reduceLeDiff, Int.reduceLT, Int.reduceLE, Int.reduceEq, ↓reduceIte, Int.reduceNeg, Int.reduceAdd, Int.reduceSub, Int.reduceMul, true_imp_iff, forall_const, Nat.mul_one, Int.reduceToNat, Nat.reducePow, Int.reducePow, Bool.true_and, Bool.false_and, Bool.and_false]
        refine hI2.use ?_
        simp (disch := first | assumption | omega | (simp only [List.length_append, List.length_cons, List.length_nil]; omega)) only [go_sem, reduceCtorEq, Nat.reduceEqDiff, Nat.reduceAdd, Nat.reduceSub, Nat.reduceMul, Nat.reduceLeDiff, Int.reduceLT, Int.reduceLE, Int.reduceEq, ↓reduceIte, Int.reduceNeg, Int.reduceAdd, Int.reduceSub, Int.reduceMul, true_imp_iff, forall_const, Nat.mul_one, Int.reduceToNat, Nat.reducePow, Int.reducePow, Bool.true_and, Bool.false_and, Bool.and_false]
        refine hM.use ?_
        simp (disch := first | assumption | omega | (simp only [List.length_append, List.length_cons, List.length_nil]; omega)) only [go_sem, reduceCtorEq, Nat.reduceEqDiff, Nat.reduceAdd, Nat.reduceSub, Nat.reduceMul, Nat.reduceLeDiff, Int.reduceLT, Int.reduceLE, Int.reduceEq, ↓reduceIte, Int.reduceNeg, Int.reduceAdd, Int.reduceSub, Int.reduceMul, true_imp_iff, forall_const, Nat.mul_one, Int.reduceToNat, Nat.reducePow, Int.reducePow, Bool.true_and, Bool.false_and, Bool.and_false]
        exact retC_by (by repeat' (first | exact Drop.refl _ | with_reducible refine Drop.off ?_ (by assumption))) (.refl _) ⟨rfl, rfl⟩
      | some p =>
        have hpb := quoD_le ho
        have hWp := whole_ok hpb
        have hpw : (p.tdiv 10000).natAbs ≤ 99999999999999 := by
          rw [Int.natAbs_tdiv]
          show p.natAbs / 10000 ≤ _
          omega
        have hp0 : 0 ≤ p := by
          unfold mulD quoD at ho
          split at ho
          · injection ho with ho
            rw [← ho, if_neg]
            · omega
            · simp only [Bool.not_eq_true', beq_eq_false_iff_ne, ne_eq, Bool.not_eq_true]
              rw [decide_eq_false (by omega), decide_eq_false (by omega)]
              simp
          · cases ho
        have hpw0 := Int.tdiv_nonneg hp0 (show (0 : Int) ≤ 10000 by omega)
        rw [ho] at hM hm
        rw [Option.bind_some] at hm
        simp only [resAV, Option.getD_some, Option.isSome_some] at hM
        generalize p.tdiv 10000 = w at *
        simp (disch := first | assumption | omega | (simp only [List.length_append, List.length_cons, List.length_nil]; omega)) only [go_sem, reduceCtorEq, Nat.reduceEqDiff, Nat.reduceAdd, Nat.reduceSub, Nat.reduceMul, Nat.reduceLeDiff, Int.reduceLT, Int.reduceLE, Int.reduceEq, ↓reduceIte, Int.reduceNeg, Int.reduceAdd, Int.reduceSub, Int.reduceMul, true_imp_iff, forall_const, Nat.mul_one, Int.reduceToNat, Nat.reducePow, Int.reducePow, Bool.true_and, Bool.false_and, Bool.and_false, hf, h5, hlt', hidx]
        refine hW.use ?_
        simp (disch := first | assumption | omega | (simp only [List.length_append, List.length_cons, List.length_nil]; omega)) only [go_sem, reduceCtorEq, Nat.reduceEqDiff, Nat.reduceAdd, Nat.reduceSub, Nat.reduceMul, Nat.reduceLeDiff, Int.reduceLT, Int.reduceLE, Int.reduceEq, ↓reduceIte, Int.reduceNeg, Int.reduceAdd, Int.reduceSub, Int.reduceMul, true_imp_iff, forall_const, Nat.mul_one, Int.reduceToNat, Nat.reducePow, Int.reducePow, Bool.true_and, Bool.false_and, Bool.and_false, hf, h5, c1, c2, hsn, c3, c4]
        refine hD.use ?_
        simp (disch := first | assumption | omega | (simp only [List.length_append, List.length_cons, List.length_nil]; omega)) only [go_sem, reduceCtorEq, Nat.reduceEqDiff, Nat.reduceAdd, Nat.reduceSub, Nat.reduceMul, Nat.reduceLeDiff, Int.reduceLT, Int.reduceLE, Int.reduceEq, ↓reduceIte, Int.reduceNeg, Int.reduceAdd, Int.reduceSub, Int.reduceMul, true_imp_iff, forall_const, Nat.mul_one, Int.reduceToNat, Nat.reducePow, Int.reducePow, Bool.true_and, Bool.false_and, Bool.and_false, hGne, eq1, eq2]
        refine hI1.use ?_
        simp (disch := first | assumption | omega | (simp only [List.length_append, List.length_cons, List.length_nil]; omega)) only [go_sem, reduceCtorEq, Nat.reduceEqDiff, Nat.reduceAdd, Nat.reduceSub, Nat.reduceMul, Nat.reduceLeDiff, Int.reduceLT, Int.reduceLE, Int.reduceEq, ↓reduceIte, Int.reduceNeg, Int.reduceAdd, Int.reduceSub, Int.reduceMul, true_imp_iff, forall_const, Nat.mul_one, Int.reduceToNat, Nat.reducePow, Int.reducePow, Bool.true_and, Bool.false_and, Bool.and_false]
        refine hI2.use ?_
        simp (disch := first | assumption | omega | (simp only [List.length_append, List.length_cons, List.length_nil]; omega)) only [go_sem, reduceCtorEq, Nat.reduceEqDiff, Nat.reduceAdd, Nat.reduceSub, Nat.reduceMul, Nat.reduceLeDiff, Int.reduceLT, Int.reduceLE, Int.reduceEq, ↓reduceIte, Int.reduceNeg, Int.reduceAdd, Int.reduceSub, Int.reduceMul, true_imp_iff, forall_const, Nat.mul_one, Int.reduceToNat, Nat.reducePow, Int.reducePow, Bool.true_and, Bool.false_and, Bool.and_false]
        refine hM.use ?_
        simp (disch := first | assumption | omega | (simp only [List.length_append, List.length_cons, List.length_nil]; omega)) only [go_sem, reduceCtorEq, Nat.reduceEqDiff, Nat.reduceAdd, Nat.reduceSub, Nat.reduceMul, Nat.reduceLeDiff, Int.reduceLT, Int.reduceLE, Int.reduceEq, ↓reduceIte, Int.reduceNeg, Int.reduceAdd, Int.reduceSub, Int.reduceMul, true_imp_iff, forall_const, Nat.mul_one, Int.reduceToNat, Nat.reducePow, Int.reducePow, Bool.true_and, Bool.false_and, Bool.and_false]
        refine hWp.use ?_
        simp (disch := first | assumption | omega | (simp only [List.length_append, List.length_cons, List.length_nil]; omega)) only [go_sem, reduceCtorEq, Nat.reduceEqDiff, Nat.reduceAdd, Nat.reduceSub, Nat.reduceMul, Nat.reduceLeDiff, Int.reduceLT, Int.reduceLE, Int.reduceEq, ↓reduceIte, Int.reduceNeg, Int.reduceAdd, Int.reduceSub, Int.reduceMul, true_imp_iff, forall_const, Nat.mul_one, Int.reduceToNat, Nat.reducePow, Int.reducePow, Bool.true_and, Bool.false_and, Bool.and_false, hf]
        exact ⟨i + 1, by omega, by omega, ⟨w, hm, by omega, by omega, rfl⟩, rfl⟩
  · have hlt' : ¬ (i : Int) < N.length := by omega
    rw [List.drop_eq_nil_of_le (by omega), manyS] at hm
    subst hm
    dsimp only
    have hI := int_ok n (by omega) (by omega)
    have hC := counted_ok (intP n)
    generalize intP n = o at *
    simp only [resAV] at hI
    simp (disch := first | assumption | omega | (simp only [List.length_append, List.length_cons, List.length_nil]; omega)) only [go_sem, reduceCtorEq, Nat.reduceEqDiff, Nat.reduceAdd, Nat.reduceSub, Nat.reduceMul, Nat.reduceLeDiff, Int.reduceLT, Int.reduceLE, Int.reduceEq, ↓reduceIte, Int.reduceNeg, Int.reduceAdd, Int.reduceSub, Int.reduceMul, true_imp_iff, forall_const, Nat.mul_one, Int.reduceToNat, Nat.reducePow, Int.reducePow, Bool.true_and, Bool.false_and, Bool.and_false, hf, h5, hlt']
    refine hI.use ?_
    simp (disch := first | assumption | omega | (simp only [List.length_append, List.length_cons, List.length_nil]; omega)) only [go_sem, reduceCtorEq, Nat.reduceEqDiff, Nat.reduceAdd, Nat.reduceSub, Nat.reduceMul, Nat.reduceLeDiff, Int.reduceLT, Int.reduceLE, Int.reduceEq, ↓reduceIte, Int.reduceNeg, Int.reduceAdd, Int.reduceSub, Int.reduceMul, true_imp_iff, forall_const, Nat.mul_one, Int.reduceToNat, Nat.reducePow, Int.reducePow, Bool.true_and, Bool.false_and, Bool.and_false]
    refine hC.use ?_
    simp (disch := first | assumption | omega | (simp only [List.length_append, List.length_cons, List.length_nil]; omega)) only [go_sem, reduceCtorEq, Nat.reduceEqDiff, Nat.reduceAdd, Nat.reduceSub, Nat.reduceMul, Nat.reduceLeDiff, Int.reduceLT, Int.reduceLE, Int.reduceEq, ↓reduceIte, Int.reduceNeg, Int.reduceAdd, Int.reduceSub, Int.reduceMul, true_imp_iff, forall_const, Nat.mul_one, Int.reduceToNat, Nat.reducePow, Int.reducePow, Bool.true_and, Bool.false_and, Bool.and_false]
    exact retC_by (by repeat' (first | exact Drop.refl _ | with_reducible refine Drop.off ?_ (by assumption))) (.refl _) ⟨rfl, rfl⟩
/-- The numbers of numbers. -/
theorem nums_nums : ∀ (N acc : List Int), numsA acc (N.map PV.num) = .inl (acc ++ N)
  | [], acc => by simp [numsA]
  | n :: N, acc => by
    rw [List.map_cons, numsA, if_pos (show (asNum (PV.num n)).2 = 0 from rfl), nums_nums N]
    simp [asNum]
theorem small_nums (N : List Int) : ∀ v ∈ N.map PV.num, v.small := by
  intro v hv
  obtain ⟨n, _, rfl⟩ := List.mem_map.1 hv
  trivial
theorem call_quot {a b : Int} (ha : a.natAbs ≤ 999999999999999999) (hb : b.natAbs ≤ 999999999999999999) : Pure Tryd.prog 20 [.str sQUOT, .sl .shr ([PV.num a, PV.num b].map argAV)] (if b = 0 then PV.fail 1 else cntP (intP (a.tdiv b))).av := by
  refine call_of _ _ _ (by simp) (small_nums [a, b]) (fun h => by cases h) (fun _ h => by (have e : limP sQUOT = (2, 2) := by decide); rw [e] at h; simp only [List.length_cons, List.length_nil] at h; omega) (fun f _ _ _ h => by cases h) (fun N _ _ _ h => ?_)
  injection h with h
  subst h
  intro σ a1 hf
  have hQ := quotient_ok ha hb
  obtain ⟨s, hs⟩ : ∃ s, sQUOT = s := ⟨_, rfl⟩
  have n0 : (s = [65, 66, 83]) = False := eq_false (by rw [← hs]; decide)
  have n1 : (s = [83, 73, 71, 78]) = False := eq_false (by rw [← hs]; decide)
  have n2 : (s = [73, 78, 84]) = False := eq_false (by rw [← hs]; decide)
  have n3 : (s = [84, 82, 85, 78, 67]) = False := eq_false (by rw [← hs]; decide)
  have n4 : (s = [82, 79, 85, 78, 68, 68, 79, 87, 78]) = False := eq_false (by rw [← hs]; decide)
  have n5 : (s = [82, 79, 85, 78, 68]) = False := eq_false (by rw [← hs]; decide)
  have n6 : (s = [82, 79, 85, 78, 68, 85, 80]) = False := eq_false (by rw [← hs]; decide)
  have n7 : (s = [70, 76, 79, 79, 82]) = False := eq_false (by rw [← hs]; decide)
  have n8 : (s = [67, 69, 73, 76, 73, 78, 71]) = False := eq_false (by rw [← hs]; decide)
  have n9 : (s = [77, 82, 79, 85, 78, 68]) = False := eq_false (by rw [← hs]; decide)
  have n10 : (s = [77, 79, 68]) = False := eq_false (by rw [← hs]; decide)
  have n11 : (s = [81, 85, 79, 84, 73, 69, 78, 84]) = True := eq_true (by rw [← hs]; decide)
  have n12 : (s = [80, 79, 87, 69, 82]) = False := eq_false (by rw [← hs]; decide)
  have n13 : (s = [83, 81, 82, 84]) = False := eq_false (by rw [← hs]; decide)
  have n14 : (s = [70, 65, 67, 84]) = False := eq_false (by rw [← hs]; decide)
  have n15 : (s = [69, 86, 69, 78]) = False := eq_false (by rw [← hs]; decide)
  have n16 : (s = [79, 68, 68]) = False := eq_false (by rw [← hs]; decide)
  have n17 : (s = [67, 76, 65, 77, 80]) = False := eq_false (by rw [← hs]; decide)
  rw [hs] at hf
  simp only [asNum, List.nil_append, List.cons_append] at hf
  simp (disch := first | assumption | omega | (simp only [List.length_append, List.length_cons, List.length_nil]; omega)) only [go_sem, reduceCtorEq, Nat.reduceEqDiff, Nat.reduceAdd, Nat.reduceSub, Nat.reduceMul, Nat.reduceLeDiff, Int.reduceLT, Int.reduceLE, Int.reduceEq, ↓reduceIte, Int.reduceNeg, Int.reduceAdd, Int.reduceSub, Int.reduceMul, true_imp_iff, forall_const, Nat.mul_one, Int.reduceToNat, Nat.reducePow, Int.reducePow, Bool.true_and, Bool.false_and, Bool.and_false, hf, n0, n1, n2, n3, n4, n5, n6, n7, n8, n9, n10, n11, n12, n13, n14, n15, n16, n17]
  refine hQ.use ?_
  simp (disch := first | assumption | omega | (simp only [List.length_append, List.length_cons, List.length_nil]; omega)) only [go_sem, reduceCtorEq, Nat.reduceEqDiff, Nat.reduceAdd, Nat.reduceSub, Nat.reduceMul, Nat.reduceLeDiff, Int.reduceLT, Int.reduceLE, Int.reduceEq, ↓reduceIte, Int.reduceNeg, Int.reduceAdd, Int.reduceSub, Int.reduceMul, true_imp_iff, forall_const, Nat.mul_one, Int.reduceToNat, Nat.reducePow, Int.reducePow, Bool.true_and, Bool.false_and, Bool.and_false]
  exact retC_by (by repeat' (first | exact Drop.refl _ | with_reducible refine Drop.off ?_ (by assumption))) (.refl _) ⟨rfl, rfl⟩
theorem call_mod {a b : Int} (ha : a.natAbs ≤ 999999999999999999) (hb : 0 < b) (hb2 : b ≤ 999999999999999999) : Pure Tryd.prog 20 [.str sMOD, .sl .shr ([PV.num a, PV.num b].map argAV)] (PV.num (a % b)).av := by
  refine call_of _ _ _ (by simp) (small_nums [a, b]) (fun h => by cases h) (fun _ h => by (have e : limP sMOD = (2, 2) := by decide); rw [e] at h; simp only [List.length_cons, List.length_nil] at h; omega) (fun f _ _ _ h => by cases h) (fun N _ _ _ h => ?_)
  injection h with h
  subst h
  intro σ a1 hf
  have hM := mod_ok ha hb hb2
  have hC := counted_ok (some (a % b))
  have hb0 : ¬ b = 0 := by omega
  simp only [Option.getD_some, Option.isSome_some, cntP] at hC
  obtain ⟨s, hs⟩ : ∃ s, sMOD = s := ⟨_, rfl⟩
  have n0 : (s = [65, 66, 83]) = False := eq_false (by rw [← hs]; decide)
  have n1 : (s = [83, 73, 71, 78]) = False := eq_false (by rw [← hs]; decide)
  have n2 : (s = [73, 78, 84]) = False := eq_false (by rw [← hs]; decide)
  have n3 : (s = [84, 82, 85, 78, 67]) = False := eq_false (by rw [← hs]; decide)
  have n4 : (s = [82, 79, 85, 78, 68, 68, 79, 87, 78]) = False := eq_false (by rw [← hs]; decide)
  have n5 : (s = [82, 79, 85, 78, 68]) = False := eq_false (by rw [← hs]; decide)
  have n6 : (s = [82, 79, 85, 78, 68, 85, 80]) = False := eq_false (by rw [← hs]; decide)
  have n7 : (s = [70, 76, 79, 79, 82]) = False := eq_false (by rw [← hs]; decide)
  have n8 : (s = [67, 69, 73, 76, 73, 78, 71]) = False := eq_false (by rw [← hs]; decide)
  have n9 : (s = [77, 82, 79, 85, 78, 68]) = False := eq_false (by rw [← hs]; decide)
  have n10 : (s = [77, 79, 68]) = True := eq_true (by rw [← hs]; decide)
  have n11 : (s = [81, 85, 79, 84, 73, 69, 78, 84]) = False := eq_false (by rw [← hs]; decide)
  have n12 : (s = [80, 79, 87, 69, 82]) = False := eq_false (by rw [← hs]; decide)
  have n13 : (s = [83, 81, 82, 84]) = False := eq_false (by rw [← hs]; decide)
  have n14 : (s = [70, 65, 67, 84]) = False := eq_false (by rw [← hs]; decide)
  have n15 : (s = [69, 86, 69, 78]) = False := eq_false (by rw [← hs]; decide)
  have n16 : (s = [79, 68, 68]) = False := eq_false (by rw [← hs]; decide)
  have n17 : (s = [67, 76, 65, 77, 80]) = False := eq_false (by rw [← hs]; decide)
  rw [hs] at hf
  simp only [asNum, List.nil_append, List.cons_append] at hf
  simp (disch := first | assumption | omega | (simp only [List.length_append, List.length_cons, List.length_nil]; omega)) only [go_sem, reduceCtorEq, Nat.reduceEqDiff, Nat.reduceAdd, Nat.reduceSub, Nat.reduceMul, Nat.reduceLeDiff, Int.reduceLT, Int.reduceLE, Int.reduceEq, ↓reduceIte, Int.reduceNeg, Int.reduceAdd, Int.reduceSub, Int.reduceMul, true_imp_iff, forall_const, Nat.mul_one, Int.reduceToNat, Nat.reducePow, Int.reducePow, Bool.true_and, Bool.false_and, Bool.and_false, hf, hb0, n0, n1, n2, n3, n4, n5, n6, n7, n8, n9, n10, n11, n12, n13, n14, n15, n16, n17]
  refine hM.use ?_
  simp (disch := first | assumption | omega | (simp only [List.length_append, List.length_cons, List.length_nil]; omega)) only [go_sem, reduceCtorEq, Nat.reduceEqDiff, Nat.reduceAdd, Nat.reduceSub, Nat.reduceMul, Nat.reduceLeDiff, Int.reduceLT, Int.reduceLE, Int.reduceEq, ↓reduceIte, Int.reduceNeg, Int.reduceAdd, Int.reduceSub, Int.reduceMul, true_imp_iff, forall_const, Nat.mul_one, Int.reduceToNat, Nat.reducePow, Int.reducePow, Bool.true_and, Bool.false_and, Bool.and_false]
  refine hC.use ?_
  simp (disch := first | assumption | omega | (simp only [List.length_append, List.length_cons, List.length_nil]; omega)) only [go_sem, reduceCtorEq, Nat.reduceEqDiff, Nat.reduceAdd, Nat.reduceSub, Nat.reduceMul, Nat.reduceLeDiff, Int.reduceLT, Int.reduceLE, Int.reduceEq, ↓reduceIte, Int.reduceNeg, Int.reduceAdd, Int.reduceSub, Int.reduceMul, true_imp_iff, forall_const, Nat.mul_one, Int.reduceToNat, Nat.reducePow, Int.reducePow, Bool.true_and, Bool.false_and, Bool.and_false]
  exact retC_by (by repeat' (first | exact Drop.refl _ | with_reducible refine Drop.off ?_ (by assumption))) (.refl _) ⟨rfl, rfl⟩
theorem call_gcd (M : List PV) (L : List Int) (hs0 : ∀ v ∈ M, v.small) (hA : numsA [] M = .inl L) (h1 : 1 ≤ M.length) (h2 : M.length ≤ 30) (hne : 1 ≤ L.length) (hll : L.length ≤ 30) (hL : ∀ a ∈ L, a.natAbs ≤ 999999999999999999) : Pure Tryd.prog 20 [.str sGCD, .sl .shr (M.map argAV)] (manyP (decide (sGCD = [71, 67, 68])) L).av := by
  refine call_of _ _ _ (by omega) hs0 (fun h => by cases h) (fun _ h => ?_) (fun f _ _ _ h => ?_) (fun N _ _ _ h => ?_)
  · exfalso
    have e : limP sGCD = (1, 30) := by decide
    rw [e] at h
    simp only at h
    omega
  · rw [hA] at h; cases h
  rw [hA] at h
  injection h with h
  subst h
  intro σ a1 hf
  have hM := many_ok sGCD L (by omega) hL
  obtain ⟨s, hs⟩ : ∃ s, sGCD = s := ⟨_, rfl⟩
  have n0 : (s = [65, 66, 83]) = False := eq_false (by rw [← hs]; decide)
  have n1 : (s = [83, 73, 71, 78]) = False := eq_false (by rw [← hs]; decide)
  have n2 : (s = [73, 78, 84]) = False := eq_false (by rw [← hs]; decide)
  have n3 : (s = [84, 82, 85, 78, 67]) = False := eq_false (by rw [← hs]; decide)
  have n4 : (s = [82, 79, 85, 78, 68, 68, 79, 87, 78]) = False := eq_false (by rw [← hs]; decide)
  have n5 : (s = [82, 79, 85, 78, 68]) = False := eq_false (by rw [← hs]; decide)
  have n6 : (s = [82, 79, 85, 78, 68, 85, 80]) = False := eq_false (by rw [← hs]; decide)
  have n7 : (s = [70, 76, 79, 79, 82]) = False := eq_false (by rw [← hs]; decide)
  have n8 : (s = [67, 69, 73, 76, 73, 78, 71]) = False := eq_false (by rw [← hs]; decide)
  have n9 : (s = [77, 82, 79, 85, 78, 68]) = False := eq_false (by rw [← hs]; decide)
  have n10 : (s = [77, 79, 68]) = False := eq_false (by rw [← hs]; decide)
  have n11 : (s = [81, 85, 79, 84, 73, 69, 78, 84]) = False := eq_false (by rw [← hs]; decide)
  have n12 : (s = [80, 79, 87, 69, 82]) = False := eq_false (by rw [← hs]; decide)
  have n13 : (s = [83, 81, 82, 84]) = False := eq_false (by rw [← hs]; decide)
  have n14 : (s = [70, 65, 67, 84]) = False := eq_false (by rw [← hs]; decide)
  have n15 : (s = [69, 86, 69, 78]) = False := eq_false (by rw [← hs]; decide)
  have n16 : (s = [79, 68, 68]) = False := eq_false (by rw [← hs]; decide)
  have n17 : (s = [67, 76, 65, 77, 80]) = False := eq_false (by rw [← hs]; decide)
  rw [hs] at hf hM
  obtain ⟨x, l, rfl⟩ : ∃ x l, L = x :: l := by
    cases L with
    | nil => simp at hne
    | cons x l => exact ⟨x, l, rfl⟩
  rw [List.map_cons] at hf hM
  rw [hs]
  simp (disch := first | assumption | omega | (simp only [List.length_append, List.length_cons, List.length_nil]; omega)) only [go_sem, reduceCtorEq, Nat.reduceEqDiff, Nat.reduceAdd, Nat.reduceSub, Nat.reduceMul, Nat.reduceLeDiff, Int.reduceLT, Int.reduceLE, Int.reduceEq, ↓reduceIte, Int.reduceNeg, Int.reduceAdd, Int.reduceSub, Int.reduceMul, true_imp_iff, forall_const, Nat.mul_one, Int.reduceToNat, Nat.reducePow, Int.reducePow, Bool.true_and, Bool.false_and, Bool.and_false, hf, n0, n1, n2, n3, n4, n5, n6, n7, n8, n9, n10, n11, n12, n13, n14, n15, n16, n17]
  refine hM.use ?_
  simp (disch := first | assumption | omega | (simp only [List.length_append, List.length_cons, List.length_nil]; omega)) only [go_sem, reduceCtorEq, Nat.reduceEqDiff, Nat.reduceAdd, Nat.reduceSub, Nat.reduceMul, Nat.reduceLeDiff, Int.reduceLT, Int.reduceLE, Int.reduceEq, ↓reduceIte, Int.reduceNeg, Int.reduceAdd, Int.reduceSub, Int.reduceMul, true_imp_iff, forall_const, Nat.mul_one, Int.reduceToNat, Nat.reducePow, Int.reducePow, Bool.true_and, Bool.false_and, Bool.and_false]
  exact retC_by (by repeat' (first | exact Drop.refl _ | with_reducible refine Drop.off ?_ (by assumption))) (.refl _) ⟨rfl, rfl⟩
theorem call_lcm (M : List PV) (L : List Int) (hs0 : ∀ v ∈ M, v.small) (hA : numsA [] M = .inl L) (h1 : 1 ≤ M.length) (h2 : M.length ≤ 30) (hne : 1 ≤ L.length) (hll : L.length ≤ 30) (hL : ∀ a ∈ L, a.natAbs ≤ 999999999999999999) : Pure Tryd.prog 20 [.str sLCM, .sl .shr (M.map argAV)] (manyP (decide (sLCM = [71, 67, 68])) L).av := by
  refine call_of _ _ _ (by omega) hs0 (fun h => by cases h) (fun _ h => ?_) (fun f _ _ _ h => ?_) (fun N _ _ _ h => ?_)
  · exfalso
    have e : limP sLCM = (1, 30) := by decide
    rw [e] at h
    simp only at h
    omega
  · rw [hA] at h; cases h
  rw [hA] at h
  injection h with h
  subst h
  intro σ a1 hf
  have hM := many_ok sLCM L (by omega) hL
  obtain ⟨s, hs⟩ : ∃ s, sLCM = s := ⟨_, rfl⟩
  have n0 : (s = [65, 66, 83]) = False := eq_false (by rw [← hs]; decide)
  have n1 : (s = [83, 73, 71, 78]) = False := eq_false (by rw [← hs]; decide)
  have n2 : (s = [73, 78, 84]) = False := eq_false (by rw [← hs]; decide)
  have n3 : (s = [84, 82, 85, 78, 67]) = False := eq_false (by rw [← hs]; decide)
  have n4 : (s = [82, 79, 85, 78, 68, 68, 79, 87, 78]) = False := eq_false (by rw [← hs]; decide)
  have n5 : (s = [82, 79, 85, 78, 68]) = False := eq_false (by rw [← hs]; decide)
  have n6 : (s = [82, 79, 85, 78, 68, 85, 80]) = False := eq_false (by rw [← hs]; decide)
  have n7 : (s = [70, 76, 79, 79, 82]) = False := eq_false (by rw [← hs]; decide)
  have n8 : (s = [67, 69, 73, 76, 73, 78, 71]) = False := eq_false (by rw [← hs]; decide)
  have n9 : (s = [77, 82, 79, 85, 78, 68]) = False := eq_false (by rw [← hs]; decide)
  have n10 : (s = [77, 79, 68]) = False := eq_false (by rw [← hs]; decide)
  have n11 : (s = [81, 85, 79, 84, 73, 69, 78, 84]) = False := eq_false (by rw [← hs]; decide)
  have n12 : (s = [80, 79, 87, 69, 82]) = False := eq_false (by rw [← hs]; decide)
  have n13 : (s = [83, 81, 82, 84]) = False := eq_false (by rw [← hs]; decide)
  have n14 : (s = [70, 65, 67, 84]) = False := eq_false (by rw [← hs]; decide)
  have n15 : (s = [69, 86, 69, 78]) = False := eq_false (by rw [← hs]; decide)
  have n16 : (s = [79, 68, 68]) = False := eq_false (by rw [← hs]; decide)
  have n17 : (s = [67, 76, 65, 77, 80]) = False := eq_false (by rw [← hs]; decide)
  rw [hs] at hf hM
  obtain ⟨x, l, rfl⟩ : ∃ x l, L = x :: l := by
    cases L with
    | nil => simp at hne
    | cons x l => exact ⟨x, l, rfl⟩
  rw [List.map_cons] at hf hM
  rw [hs]
  simp (disch := first | assumption | omega | (simp only [List.length_append, List.length_cons, List.length_nil]; omega)) only [go_sem, reduceCtorEq, Nat.reduceEqDiff, Nat.reduceAdd, Nat.reduceSub, Nat.reduceMul, Nat.reduceLeDiff, Int.reduceLT, Int.reduceLE, Int.reduceEq, ↓reduceIte, Int.reduceNeg, Int.reduceAdd, Int.reduceSub, Int.reduceMul, true_imp_iff, forall_const, Nat.mul_one, Int.reduceToNat, Nat.reducePow, Int.reducePow, Bool.true_and, Bool.false_and, Bool.and_false, hf, n0, n1, n2, n3, n4, n5, n6, n7, n8, n9, n10, n11, n12, n13, n14, n15, n16, n17]
  refine hM.use ?_
  simp (disch := first | assumption | omega | (simp only [List.length_append, List.length_cons, List.length_nil]; omega)) only [go_sem, reduceCtorEq, Nat.reduceEqDiff, Nat.reduceAdd, Nat.reduceSub, Nat.reduceMul, Nat.reduceLeDiff, Int.reduceLT, Int.reduceLE, Int.reduceEq, ↓reduceIte, Int.reduceNeg, Int.reduceAdd, Int.reduceSub, Int.reduceMul, true_imp_iff, forall_const, Nat.mul_one, Int.reduceToNat, Nat.reducePow, Int.reducePow, Bool.true_and, Bool.false_and, Bool.and_false]
  exact retC_by (by repeat' (first | exact Drop.refl _ | with_reducible refine Drop.off ?_ (by assumption))) (.refl _) ⟨rfl, rfl⟩
theorem call_down {σ : ASt} (hT : Tens σ) {a b : Int} (ha : a.natAbs ≤ 999999999999999999) (hb : b.natAbs ≤ 999999999999999999) :
    ACalls Tryd.prog 20 [.str sDOWN, .sl .shr ([PV.num a, PV.num b].map argAV)] σ (fun v σ' => v = (PV.num (truncG a (placesM [a, b]))).av ∧ σ' = σ) := by
  refine call_ofS _ _ _ (by simp) (small_nums [a, b]) (fun h => by cases h) (fun _ h => by (have e : limP sDOWN = (1, 2) := by decide); rw [e] at h; simp only [List.length_cons, List.length_nil] at h; omega) (fun f _ _ _ h => by cases h) (fun N _ _ _ h => ?_)
  injection h with h
  subst h
  intro a1 hf
  have hP := places_ok [a, b] (by simp) hb
  have hpl : -20 ≤ placesM [a, b] ∧ placesM [a, b] ≤ 20 := by unfold placesM; omega
  have hX := trunc_g hT (placesM [a, b]) ha
  obtain ⟨s, hs⟩ : ∃ s, sDOWN = s := ⟨_, rfl⟩
  have n0 : (s = [65, 66, 83]) = False := eq_false (by rw [← hs]; decide)
  have n1 : (s = [83, 73, 71, 78]) = False := eq_false (by rw [← hs]; decide)
  have n2 : (s = [73, 78, 84]) = False := eq_false (by rw [← hs]; decide)
  have n3 : (s = [84, 82, 85, 78, 67]) = False := eq_false (by rw [← hs]; decide)
  have n4 : (s = [82, 79, 85, 78, 68, 68, 79, 87, 78]) = True := eq_true (by rw [← hs]; decide)
  have n5 : (s = [82, 79, 85, 78, 68]) = False := eq_false (by rw [← hs]; decide)
  have n6 : (s = [82, 79, 85, 78, 68, 85, 80]) = False := eq_false (by rw [← hs]; decide)
  have n7 : (s = [70, 76, 79, 79, 82]) = False := eq_false (by rw [← hs]; decide)
  have n8 : (s = [67, 69, 73, 76, 73, 78, 71]) = False := eq_false (by rw [← hs]; decide)
  have n9 : (s = [77, 82, 79, 85, 78, 68]) = False := eq_false (by rw [← hs]; decide)
  have n10 : (s = [77, 79, 68]) = False := eq_false (by rw [← hs]; decide)
  have n11 : (s = [81, 85, 79, 84, 73, 69, 78, 84]) = False := eq_false (by rw [← hs]; decide)
  have n12 : (s = [80, 79, 87, 69, 82]) = False := eq_false (by rw [← hs]; decide)
  have n13 : (s = [83, 81, 82, 84]) = False := eq_false (by rw [← hs]; decide)
  have n14 : (s = [70, 65, 67, 84]) = False := eq_false (by rw [← hs]; decide)
  have n15 : (s = [69, 86, 69, 78]) = False := eq_false (by rw [← hs]; decide)
  have n16 : (s = [79, 68, 68]) = False := eq_false (by rw [← hs]; decide)
  have n17 : (s = [67, 76, 65, 77, 80]) = False := eq_false (by rw [← hs]; decide)
  rw [hs] at hf
  simp only [asNum, List.nil_append, List.cons_append] at hf
  simp only [List.map_cons, List.map_nil] at hP hf
  generalize placesM [a, b] = p at *
  simp only [PV.av]
  generalize truncG a p = t at *
  simp (disch := first | assumption | omega | (simp only [List.length_append, List.length_cons, List.length_nil]; omega)) only [go_sem, reduceCtorEq, Nat.reduceEqDiff, Nat.reduceAdd, Nat.reduceSub, Nat.reduceMul, Nat.reduceLeDiff, Int.reduceLT, Int.reduceLE, Int.reduceEq, ↓reduceIte, Int.reduceNeg, Int.reduceAdd, Int.reduceSub, Int.reduceMul, true_imp_iff, forall_const, Nat.mul_one, Int.reduceToNat, Nat.reducePow, Int.reducePow, Bool.true_and, Bool.false_and, Bool.and_false, hf, n0, n1, n2, n3, n4, n5, n6, n7, n8, n9, n10, n11, n12, n13, n14, n15, n16, n17]
  refine hP.use ?_
  simp (disch := first | assumption | omega | (simp only [List.length_append, List.length_cons, List.length_nil]; omega)) only [go_sem, reduceCtorEq, Nat.reduceEqDiff, Nat.reduceAdd, Nat.reduceSub, Nat.reduceMul, Nat.reduceLeDiff, Int.reduceLT, Int.reduceLE, Int.reduceEq, ↓reduceIte, Int.reduceNeg, Int.reduceAdd, Int.reduceSub, Int.reduceMul, true_imp_iff, forall_const, Nat.mul_one, Int.reduceToNat, Nat.reducePow, Int.reducePow, Bool.true_and, Bool.false_and, Bool.and_false]
  refine hX.mono ?_
  rintro v σ' ⟨rfl, rfl⟩
  simp (disch := first | assumption | omega | (simp only [List.length_append, List.length_cons, List.length_nil]; omega)) only [go_sem, reduceCtorEq, Nat.reduceEqDiff, Nat.reduceAdd, Nat.reduceSub, Nat.reduceMul, Nat.reduceLeDiff, Int.reduceLT, Int.reduceLE, Int.reduceEq, ↓reduceIte, Int.reduceNeg, Int.reduceAdd, Int.reduceSub, Int.reduceMul, true_imp_iff, forall_const, Nat.mul_one, Int.reduceToNat, Nat.reducePow, Int.reducePow, Bool.true_and, Bool.false_and, Bool.and_false]
  exact retC_by (by repeat' (first | exact Drop.refl _ | with_reducible refine Drop.off ?_ (by assumption))) (.refl _) ⟨rfl, rfl⟩
theorem call_round {σ : ASt} (hT : Tens σ) {a b : Int} (ha : a.natAbs ≤ 999999999999999999) (hb : b.natAbs ≤ 999999999999999999) {o : Option Int} (hR : ACalls Tryd.prog 38 [.int .i64 a, .int .i64 (placesM [a, b])] σ fun v σ' => v = resAV o ∧ σ' = σ) :
    ACalls Tryd.prog 20 [.str sROUND, .sl .shr ([PV.num a, PV.num b].map argAV)] σ (fun v σ' => v = (cntP o).av ∧ σ' = σ) := by
  refine call_ofS _ _ _ (by simp) (small_nums [a, b]) (fun h => by cases h) (fun _ h => by (have e : limP sROUND = (1, 2) := by decide); rw [e] at h; simp only [List.length_cons, List.length_nil] at h; omega) (fun f _ _ _ h => by cases h) (fun N _ _ _ h => ?_)
  injection h with h
  subst h
  intro a1 hf
  have hP := places_ok [a, b] (by simp) hb
  have hpl : -20 ≤ placesM [a, b] ∧ placesM [a, b] ≤ 20 := by unfold placesM; omega
  have hC := counted_ok o
  simp only [resAV] at hR
  obtain ⟨s, hs⟩ : ∃ s, sROUND = s := ⟨_, rfl⟩
  have n0 : (s = [65, 66, 83]) = False := eq_false (by rw [← hs]; decide)
  have n1 : (s = [83, 73, 71, 78]) = False := eq_false (by rw [← hs]; decide)
  have n2 : (s = [73, 78, 84]) = False := eq_false (by rw [← hs]; decide)
  have n3 : (s = [84, 82, 85, 78, 67]) = False := eq_false (by rw [← hs]; decide)
  have n4 : (s = [82, 79, 85, 78, 68, 68, 79, 87, 78]) = False := eq_false (by rw [← hs]; decide)
  have n5 : (s = [82, 79, 85, 78, 68]) = True := eq_true (by rw [← hs]; decide)
  have n6 : (s = [82, 79, 85, 78, 68, 85, 80]) = False := eq_false (by rw [← hs]; decide)
  have n7 : (s = [70, 76, 79, 79, 82]) = False := eq_false (by rw [← hs]; decide)
  have n8 : (s = [67, 69, 73, 76, 73, 78, 71]) = False := eq_false (by rw [← hs]; decide)
  have n9 : (s = [77, 82, 79, 85, 78, 68]) = False := eq_false (by rw [← hs]; decide)
  have n10 : (s = [77, 79, 68]) = False := eq_false (by rw [← hs]; decide)
  have n11 : (s = [81, 85, 79, 84, 73, 69, 78, 84]) = False := eq_false (by rw [← hs]; decide)
  have n12 : (s = [80, 79, 87, 69, 82]) = False := eq_false (by rw [← hs]; decide)
  have n13 : (s = [83, 81, 82, 84]) = False := eq_false (by rw [← hs]; decide)
  have n14 : (s = [70, 65, 67, 84]) = False := eq_false (by rw [← hs]; decide)
  have n15 : (s = [69, 86, 69, 78]) = False := eq_false (by rw [← hs]; decide)
  have n16 : (s = [79, 68, 68]) = False := eq_false (by rw [← hs]; decide)
  have n17 : (s = [67, 76, 65, 77, 80]) = False := eq_false (by rw [← hs]; decide)
  rw [hs] at hf
  simp only [asNum, List.nil_append, List.cons_append] at hf
  simp only [List.map_cons, List.map_nil] at hP hf
  generalize placesM [a, b] = p at *
  simp (disch := first | assumption | omega | (simp only [List.length_append, List.length_cons, List.length_nil]; omega)) only [go_sem, reduceCtorEq, Nat.reduceEqDiff, Nat.reduceAdd, Nat.reduceSub, Nat.reduceMul, Nat.reduceLeDiff, Int.reduceLT, Int.reduceLE, Int.reduceEq, ↓reduceIte, Int.reduceNeg, Int.reduceAdd, Int.reduceSub, Int.reduceMul, true_imp_iff, forall_const, Nat.mul_one, Int.reduceToNat, Nat.reducePow, Int.reducePow, Bool.true_and, Bool.false_and, Bool.and_false, hf, n0, n1, n2, n3, n4, n5, n6, n7, n8, n9, n10, n11, n12, n13, n14, n15, n16, n17]
  refine hP.use ?_
  simp (disch := first | assumption | omega | (simp only [List.length_append, List.length_cons, List.length_nil]; omega)) only [go_sem, reduceCtorEq, Nat.reduceEqDiff, Nat.reduceAdd, Nat.reduceSub, Nat.reduceMul, Nat.reduceLeDiff, Int.reduceLT, Int.reduceLE, Int.reduceEq, ↓reduceIte, Int.reduceNeg, Int.reduceAdd, Int.reduceSub, Int.reduceMul, true_imp_iff, forall_const, Nat.mul_one, Int.reduceToNat, Nat.reducePow, Int.reducePow, Bool.true_and, Bool.false_and, Bool.and_false]
  refine hR.mono ?_
  rintro v σ' ⟨rfl, rfl⟩
  simp (disch := first | assumption | omega | (simp only [List.length_append, List.length_cons, List.length_nil]; omega)) only [go_sem, reduceCtorEq, Nat.reduceEqDiff, Nat.reduceAdd, Nat.reduceSub, Nat.reduceMul, Nat.reduceLeDiff, Int.reduceLT, Int.reduceLE, Int.reduceEq, ↓reduceIte, Int.reduceNeg, Int.reduceAdd, Int.reduceSub, Int.reduceMul, true_imp_iff, forall_const, Nat.mul_one, Int.reduceToNat, Nat.reducePow, Int.reducePow, Bool.true_and, Bool.false_and, Bool.and_false]
  refine hC.use ?_
  simp (disch := first | assumption | omega | (simp only [List.length_append, List.length_cons, List.length_nil]; omega)) only [go_sem, reduceCtorEq, Nat.reduceEqDiff, Nat.reduceAdd, Nat.reduceSub, Nat.reduceMul, Nat.reduceLeDiff, Int.reduceLT, Int.reduceLE, Int.reduceEq, ↓reduceIte, Int.reduceNeg, Int.reduceAdd, Int.reduceSub, Int.reduceMul, true_imp_iff, forall_const, Nat.mul_one, Int.reduceToNat, Nat.reducePow, Int.reducePow, Bool.true_and, Bool.false_and, Bool.and_false]
  exact retC_by (by repeat' (first | exact Drop.refl _ | with_reducible refine Drop.off ?_ (by assumption))) (.refl _) ⟨rfl, rfl⟩
theorem call_up {σ : ASt} (hT : Tens σ) {a b : Int} (ha : a.natAbs ≤ 999999999999999999) (hb : b.natAbs ≤ 999999999999999999) :
    ACalls Tryd.prog 20 [.str sUP, .sl .shr ([PV.num a, PV.num b].map argAV)] σ (fun v σ' => v = (awayP a (placesM [a, b])).av ∧ σ' = σ) := by
  refine call_ofS _ _ _ (by simp) (small_nums [a, b]) (fun h => by cases h) (fun _ h => by (have e : limP sUP = (1, 2) := by decide); rw [e] at h; simp only [List.length_cons, List.length_nil] at h; omega) (fun f _ _ _ h => by cases h) (fun N _ _ _ h => ?_)
  injection h with h
  subst h
  intro a1 hf
  have hP := places_ok [a, b] (by simp) hb
  have hpl : -20 ≤ placesM [a, b] ∧ placesM [a, b] ≤ 20 := by unfold placesM; omega
  have hX := away_ok hT ha hpl.1 hpl.2
  obtain ⟨s, hs⟩ : ∃ s, sUP = s := ⟨_, rfl⟩
  have n0 : (s = [65, 66, 83]) = False := eq_false (by rw [← hs]; decide)
  have n1 : (s = [83, 73, 71, 78]) = False := eq_false (by rw [← hs]; decide)
  have n2 : (s = [73, 78, 84]) = False := eq_false (by rw [← hs]; decide)
  have n3 : (s = [84, 82, 85, 78, 67]) = False := eq_false (by rw [← hs]; decide)
  have n4 : (s = [82, 79, 85, 78, 68, 68, 79, 87, 78]) = False := eq_false (by rw [← hs]; decide)
  have n5 : (s = [82, 79, 85, 78, 68]) = False := eq_false (by rw [← hs]; decide)
  have n6 : (s = [82, 79, 85, 78, 68, 85, 80]) = True := eq_true (by rw [← hs]; decide)
  have n7 : (s = [70, 76, 79, 79, 82]) = False := eq_false (by rw [← hs]; decide)
  have n8 : (s = [67, 69, 73, 76, 73, 78, 71]) = False := eq_false (by rw [← hs]; decide)
  have n9 : (s = [77, 82, 79, 85, 78, 68]) = False := eq_false (by rw [← hs]; decide)
  have n10 : (s = [77, 79, 68]) = False := eq_false (by rw [← hs]; decide)
  have n11 : (s = [81, 85, 79, 84, 73, 69, 78, 84]) = False := eq_false (by rw [← hs]; decide)
  have n12 : (s = [80, 79, 87, 69, 82]) = False := eq_false (by rw [← hs]; decide)
  have n13 : (s = [83, 81, 82, 84]) = False := eq_false (by rw [← hs]; decide)
  have n14 : (s = [70, 65, 67, 84]) = False := eq_false (by rw [← hs]; decide)
  have n15 : (s = [69, 86, 69, 78]) = False := eq_false (by rw [← hs]; decide)
  have n16 : (s = [79, 68, 68]) = False := eq_false (by rw [← hs]; decide)
  have n17 : (s = [67, 76, 65, 77, 80]) = False := eq_false (by rw [← hs]; decide)
  rw [hs] at hf
  simp only [asNum, List.nil_append, List.cons_append] at hf
  simp only [List.map_cons, List.map_nil] at hP hf
  generalize placesM [a, b] = p at *
  generalize awayP a p = v at *
  simp (disch := first | assumption | omega | (simp only [List.length_append, List.length_cons, List.length_nil]; omega)) only [go_sem, reduceCtorEq, Nat.reduceEqDiff, Nat.reduceAdd, Nat.reduceSub, Nat.reduceMul, Nat.reduceLeDiff, Int.reduceLT, Int.reduceLE, Int.reduceEq, ↓reduceIte, Int.reduceNeg, Int.reduceAdd, Int.reduceSub, Int.reduceMul, true_imp_iff, forall_const, Nat.mul_one, Int.reduceToNat, Nat.reducePow, Int.reducePow, Bool.true_and, Bool.false_and, Bool.and_false, hf, n0, n1, n2, n3, n4, n5, n6, n7, n8, n9, n10, n11, n12, n13, n14, n15, n16, n17]
  refine hP.use ?_
  simp (disch := first | assumption | omega | (simp only [List.length_append, List.length_cons, List.length_nil]; omega)) only [go_sem, reduceCtorEq, Nat.reduceEqDiff, Nat.reduceAdd, Nat.reduceSub, Nat.reduceMul, Nat.reduceLeDiff, Int.reduceLT, Int.reduceLE, Int.reduceEq, ↓reduceIte, Int.reduceNeg, Int.reduceAdd, Int.reduceSub, Int.reduceMul, true_imp_iff, forall_const, Nat.mul_one, Int.reduceToNat, Nat.reducePow, Int.reducePow, Bool.true_and, Bool.false_and, Bool.and_false]
  refine hX.mono ?_
  rintro v σ' ⟨rfl, rfl⟩
  simp (disch := first | assumption | omega | (simp only [List.length_append, List.length_cons, List.length_nil]; omega)) only [go_sem, reduceCtorEq, Nat.reduceEqDiff, Nat.reduceAdd, Nat.reduceSub, Nat.reduceMul, Nat.reduceLeDiff, Int.reduceLT, Int.reduceLE, Int.reduceEq, ↓reduceIte, Int.reduceNeg, Int.reduceAdd, Int.reduceSub, Int.reduceMul, true_imp_iff, forall_const, Nat.mul_one, Int.reduceToNat, Nat.reducePow, Int.reducePow, Bool.true_and, Bool.false_and, Bool.and_false]
  exact retC_by (by repeat' (first | exact Drop.refl _ | with_reducible refine Drop.off ?_ (by assumption))) (.refl _) ⟨rfl, rfl⟩
end Go.A
