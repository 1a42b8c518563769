/- MathsFails. -/
import Derived.Test.YtmefepbdognkdaaDoorJf
import Derived.Test.YtmefepbdognkdaaDoorCodeJk
namespace Go.A
open Go.Proofs
set_option maxRecDepth 100000
set_option linter.unusedSimpArgs false
set_option linter.unusedVariables false

theorem few_ok (L : List Pl) (n : Nat) (hn : L.length ≤ 9223372036854775807) : Pure Tryd.prog 14 [.sl .shr (L.map plAV), .int .i64 n] (.sl .shr ((L.take n).map plAV)) := by
  intro σ
  refine a14 (by simp) ?_
  by_cases h : n < L.length
  · have h' : (n : Int) < L.length := by omega
    have hs := slV_to (f := plAV) (s := 3) (k := .shr) (L := L) (j := n) (by omega)
    simp (disch := first | assumption | omega | (simp only [List.length_append, List.length_cons, List.length_nil]; omega)) only [go_sem, reduceCtorEq, Nat.reduceEqDiff, Nat.reduceAdd, Nat.reduceSub, Nat.reduceMul, Nat.reduceLeDiff, Int.reduceLT, Int.reduceLE, Int.reduceEq, ↓reduceIte, Int.reduceNeg, Int.reduceAdd, Int.reduceSub, Int.reduceMul, true_imp_iff, forall_const, Nat.mul_one, Int.reduceToNat, Nat.reducePow, Int.reducePow, Bool.true_and, Bool.false_and, Bool.and_false, h', hs]
    exact retC_by (by repeat' (first | exact Drop.refl _ | with_reducible refine Drop.off ?_ (by assumption))) (.refl _) ⟨rfl, rfl⟩
  · have h' : ¬ (n : Int) < L.length := by omega
    rw [List.take_of_length_le (by omega)]
    simp (disch := first | assumption | omega | (simp only [List.length_append, List.length_cons, List.length_nil]; omega)) only [go_sem, reduceCtorEq, Nat.reduceEqDiff, Nat.reduceAdd, Nat.reduceSub, Nat.reduceMul, Nat.reduceLeDiff, Int.reduceLT, Int.reduceLE, Int.reduceEq, ↓reduceIte, Int.reduceNeg, Int.reduceAdd, Int.reduceSub, Int.reduceMul, true_imp_iff, forall_const, Nat.mul_one, Int.reduceToNat, Nat.reducePow, Int.reducePow, Bool.true_and, Bool.false_and, Bool.and_false, h']
    exact retC_by (by repeat' (first | exact Drop.refl _ | with_reducible refine Drop.off ?_ (by assumption))) (.refl _) ⟨rfl, rfl⟩
/-- A failure behind numbers. -/
theorem nums_fail : ∀ (A B : List PV) (acc : List Int) (n : Int), n ≠ 0 → (∀ v ∈ A, (asNum v).2 = 0) → numsA acc (A ++ .fail n :: B) = .inr n
  | [], B, acc, n, hn, _ => by
    rw [List.nil_append, numsA, if_neg]
    · rfl
    · exact hn
  | v :: A, B, acc, n, hn, h => by
    rw [List.cons_append, numsA, if_pos (h v (List.mem_cons_self))]
    exact nums_fail A B _ n hn fun x hx => h x (List.mem_cons_of_mem _ hx)
/-- What a call with a failure among its arguments comes to. -/
def failR (s : List UInt8) (k : Int) (n : Int) : PV := if (limP s).2 = 0 then .fail 6 else if k < (limP s).1 ∨ (limP s).2 < k then .fail 3 else .fail n
theorem call_fail (s : List UInt8) (A B : List PV) {n : Int} (hn : n ≠ 0) (hA : ∀ v ∈ A, (asNum v).2 = 0) (hsA : ∀ v ∈ A, v.small) (hsB : ∀ v ∈ B, v.small) (hl : (A ++ .fail n :: B).length ≤ 1000) :
    Pure Tryd.prog 20 [.str s, .sl .shr ((A ++ .fail n :: B).map argAV)] (failR s (A ++ .fail n :: B).length n).av := by
  have hN := nums_fail A B [] n hn hA
  refine call_of s _ _ hl (fun v hv => ?_) (fun h => ?_) (fun h0 h => ?_) (fun f h0 h1 h2 h => ?_) (fun N _ _ _ h => ?_)
  · rcases List.mem_append.1 hv with h | h
    · exact hsA v h
    · rcases List.mem_cons.1 h with rfl | h
      · trivial
      · exact hsB v h
  · unfold failR; rw [if_pos h]
  · unfold failR; rw [if_neg h0, if_pos h]
  · rw [hN] at h
    injection h with h
    subst h
    refine ⟨hn, ?_⟩
    unfold failR
    rw [if_neg h0, if_neg (by omega)]
  · rw [hN] at h; cases h
theorem call_none (s : List UInt8) (h0 : (limP s).2 ≠ 0) : Pure Tryd.prog 20 [.str s, .sl .shr []] (PV.fail 3).av := by
  have h1 : 1 ≤ (limP s).1 := by
    unfold limP at h0 ⊢
    repeat' split
    all_goals first | omega | (dsimp only; omega) | skip
    rename_i a b c d e
    rw [if_neg a, if_neg b, if_neg c, if_neg d, if_neg e] at h0
    exact absurd rfl h0
  exact call_of s [] _ (by simp) (fun v hv => by cases hv) (fun h => absurd h h0) (fun _ _ => rfl) (fun f _ h _ _ => by simp at h; omega) (fun N _ h _ _ => by simp at h; omega)
theorem failed_failR (s : List UInt8) (k n : Int) : (failedP (failR s k n)).2 = true := by
  unfold failR
  repeat' split
  all_goals rfl
theorem argAV_well : ∀ (L : List PV), wellSz 4 (L.map argAV) = true
  | [] => rfl
  | v :: L => by
    have := argAV_well L
    simp only [List.map_cons, wellSz, this, argAV_any, argAV_len]
    rfl
theorem argAV_leaves : ∀ (L : List PV), leaves ((L.map argAV).flatMap AV.cells) = true
  | [] => rfl
  | v :: L => by
    rw [List.map_cons, List.flatMap_cons]
    rw [leaves_app, argAV_leaves L]
    rfl
set_option maxHeartbeats 2000000 in
theorem MathsFails_any {σ : ASt} (hU : U8 σ) (hT : Tens σ) (s : List UInt8) (L0 : List Pl) (hL0 : L0.length ≤ 9223372036854775807) (n at' : Int) :
    ACalls Tryd.prog 6 [.str s, .sl .shr (L0.map plAV), .int .i64 n, .int .i64 at'] σ fun v σ' => v = .bool true ∧ σ' = σ := by
  have hAw := mawake_ok hU hT
  have hF2 := few_ok L0 2 (by omega)
  have hLl : (L0.take 2).length ≤ 2 := by rw [List.length_take]; omega
  generalize L0.take 2 = L at *
  rw [show (((2 : Nat)) : Int) = 2 from rfl] at hF2
  refine a6 (by simp) ?_
  simp (disch := first | assumption | omega | (simp only [List.length_append, List.length_cons, List.length_nil]; omega)) only [go_sem, reduceCtorEq, Nat.reduceEqDiff, Nat.reduceAdd, Nat.reduceSub, Nat.reduceMul, Nat.reduceLeDiff, Int.reduceLT, Int.reduceLE, Int.reduceEq, ↓reduceIte, Int.reduceNeg, Int.reduceAdd, Int.reduceSub, Int.reduceMul, true_imp_iff, forall_const, Nat.mul_one, Int.reduceToNat, Nat.reducePow, Int.reducePow, Bool.true_and, Bool.false_and, Bool.and_false]
  refine hF2.use ?_
  by_cases h1 : n < 1
  · simp (disch := first | assumption | omega | (simp only [List.length_append, List.length_cons, List.length_nil]; omega)) only [go_sem, reduceCtorEq, Nat.reduceEqDiff, Nat.reduceAdd, Nat.reduceSub, Nat.reduceMul, Nat.reduceLeDiff, Int.reduceLT, Int.reduceLE, Int.reduceEq, ↓reduceIte, Int.reduceNeg, Int.reduceAdd, Int.reduceSub, Int.reduceMul, true_imp_iff, forall_const, Nat.mul_one, Int.reduceToNat, Nat.reducePow, Int.reducePow, Bool.true_and, Bool.false_and, Bool.and_false, h1]
    refine hAw.mono ?_
    rintro v σ' ⟨rfl, rfl⟩
    simp (disch := first | assumption | omega | (simp only [List.length_append, List.length_cons, List.length_nil]; omega)) only [go_sem, reduceCtorEq, Nat.reduceEqDiff, Nat.reduceAdd, Nat.reduceSub, Nat.reduceMul, Nat.reduceLeDiff, Int.reduceLT, Int.reduceLE, Int.reduceEq, ↓reduceIte, Int.reduceNeg, Int.reduceAdd, Int.reduceSub, Int.reduceMul, true_imp_iff, forall_const, Nat.mul_one, Int.reduceToNat, Nat.reducePow, Int.reducePow, Bool.true_and, Bool.false_and, Bool.and_false]
    exact retC_by (by repeat' (first | exact Drop.refl _ | with_reducible refine Drop.off ?_ (by assumption))) (.refl _) ⟨rfl, rfl⟩
  by_cases h2 : 7 < n
  · simp (disch := first | assumption | omega | (simp only [List.length_append, List.length_cons, List.length_nil]; omega)) only [go_sem, reduceCtorEq, Nat.reduceEqDiff, Nat.reduceAdd, Nat.reduceSub, Nat.reduceMul, Nat.reduceLeDiff, Int.reduceLT, Int.reduceLE, Int.reduceEq, ↓reduceIte, Int.reduceNeg, Int.reduceAdd, Int.reduceSub, Int.reduceMul, true_imp_iff, forall_const, Nat.mul_one, Int.reduceToNat, Nat.reducePow, Int.reducePow, Bool.true_and, Bool.false_and, Bool.and_false, h1, h2]
    refine hAw.mono ?_
    rintro v σ' ⟨rfl, rfl⟩
    simp (disch := first | assumption | omega | (simp only [List.length_append, List.length_cons, List.length_nil]; omega)) only [go_sem, reduceCtorEq, Nat.reduceEqDiff, Nat.reduceAdd, Nat.reduceSub, Nat.reduceMul, Nat.reduceLeDiff, Int.reduceLT, Int.reduceLE, Int.reduceEq, ↓reduceIte, Int.reduceNeg, Int.reduceAdd, Int.reduceSub, Int.reduceMul, true_imp_iff, forall_const, Nat.mul_one, Int.reduceToNat, Nat.reducePow, Int.reducePow, Bool.true_and, Bool.false_and, Bool.and_false]
    exact retC_by (by repeat' (first | exact Drop.refl _ | with_reducible refine Drop.off ?_ (by assumption))) (.refl _) ⟨rfl, rfl⟩
  by_cases h3 : at' < 0
  · simp (disch := first | assumption | omega | (simp only [List.length_append, List.length_cons, List.length_nil]; omega)) only [go_sem, reduceCtorEq, Nat.reduceEqDiff, Nat.reduceAdd, Nat.reduceSub, Nat.reduceMul, Nat.reduceLeDiff, Int.reduceLT, Int.reduceLE, Int.reduceEq, ↓reduceIte, Int.reduceNeg, Int.reduceAdd, Int.reduceSub, Int.reduceMul, true_imp_iff, forall_const, Nat.mul_one, Int.reduceToNat, Nat.reducePow, Int.reducePow, Bool.true_and, Bool.false_and, Bool.and_false, h1, h2, h3]
    refine hAw.mono ?_
    rintro v σ' ⟨rfl, rfl⟩
    simp (disch := first | assumption | omega | (simp only [List.length_append, List.length_cons, List.length_nil]; omega)) only [go_sem, reduceCtorEq, Nat.reduceEqDiff, Nat.reduceAdd, Nat.reduceSub, Nat.reduceMul, Nat.reduceLeDiff, Int.reduceLT, Int.reduceLE, Int.reduceEq, ↓reduceIte, Int.reduceNeg, Int.reduceAdd, Int.reduceSub, Int.reduceMul, true_imp_iff, forall_const, Nat.mul_one, Int.reduceToNat, Nat.reducePow, Int.reducePow, Bool.true_and, Bool.false_and, Bool.and_false]
    exact retC_by (by repeat' (first | exact Drop.refl _ | with_reducible refine Drop.off ?_ (by assumption))) (.refl _) ⟨rfl, rfl⟩
  by_cases h4 : (L.length : Int) < at'
  · simp (disch := first | assumption | omega | (simp only [List.length_append, List.length_cons, List.length_nil]; omega)) only [go_sem, reduceCtorEq, Nat.reduceEqDiff, Nat.reduceAdd, Nat.reduceSub, Nat.reduceMul, Nat.reduceLeDiff, Int.reduceLT, Int.reduceLE, Int.reduceEq, ↓reduceIte, Int.reduceNeg, Int.reduceAdd, Int.reduceSub, Int.reduceMul, true_imp_iff, forall_const, Nat.mul_one, Int.reduceToNat, Nat.reducePow, Int.reducePow, Bool.true_and, Bool.false_and, Bool.and_false, h1, h2, h3, h4]
    refine hAw.mono ?_
    rintro v σ' ⟨rfl, rfl⟩
    simp (disch := first | assumption | omega | (simp only [List.length_append, List.length_cons, List.length_nil]; omega)) only [go_sem, reduceCtorEq, Nat.reduceEqDiff, Nat.reduceAdd, Nat.reduceSub, Nat.reduceMul, Nat.reduceLeDiff, Int.reduceLT, Int.reduceLE, Int.reduceEq, ↓reduceIte, Int.reduceNeg, Int.reduceAdd, Int.reduceSub, Int.reduceMul, true_imp_iff, forall_const, Nat.mul_one, Int.reduceToNat, Nat.reducePow, Int.reducePow, Bool.true_and, Bool.false_and, Bool.and_false]
    exact retC_by (by repeat' (first | exact Drop.refl _ | with_reducible refine Drop.off ?_ (by assumption))) (.refl _) ⟨rfl, rfl⟩
  obtain ⟨k, rfl⟩ : ∃ k : Nat, at' = k := ⟨at'.toNat, by omega⟩
  have hAr := args_ok hU L (by omega)
  have hsm := argsP_small L
  have hVl : (argsP L).length = L.length := by simp [argsP]
  generalize argsP L = V at *
  obtain ⟨G, hG⟩ : ∃ G, G = ACode.wp Tryd.prog c6_43 := ⟨_, rfl⟩
  have fin : ∀ (a1 : AFr), (∀ v ∈ V, (asNum v).2 = 0) → (a1 0 = .str s ∧ a1 2 = .int .i64 n ∧ a1 3 = .int .i64 k ∧ a1 9 = .sl .shr (V.map argAV)) → G (RetQ [.t 8] fun v σ' => v = .bool true ∧ σ' = σ) a1 σ := by
    intro a1 hz hf
    rw [hG]
    have hs1 := slV_to (f := argAV) (s := 4) (k := .shr) (L := V) (j := k) (by omega)
    have hs2 := slV_from (f := argAV) argAV_len (s := 4) (k := .shr) (L := V) (j := k) (by omega)
    have hO := vone_ok (.fail n)
    simp only [PV.av] at hO
    have hAB : V.take k ++ .fail n :: V.drop k = (V.take k ++ [.fail n]) ++ V.drop k := by simp
    have hC := call_fail s (V.take k) (V.drop k) (n := n) (by omega) (fun v hv => hz v (List.mem_of_mem_take hv)) (fun v hv => hsm v (List.mem_of_mem_take hv)) (fun v hv => hsm v (List.mem_of_mem_drop hv)) (by simp; omega)
    have hFd := failed_ok (failR s ((V.take k ++ .fail n :: V.drop k).length : Nat) n)
    have hb := failed_failR s ((V.take k ++ .fail n :: V.drop k).length : Nat) n
    have hHas := mhas_ok s
    have hN3 := failed_ok (.fail 3)
    simp only [failedP, PV.av] at hN3
    obtain ⟨A, hA⟩ : ∃ A, V.take k = A := ⟨_, rfl⟩
    obtain ⟨B, hB⟩ : ∃ B, V.drop k = B := ⟨_, rfl⟩
    rw [hA, hB] at hC hFd hb hAB
    rw [hA] at hs1
    rw [hB] at hs2
    have hAl : A.length ≤ 2 := by rw [← hA, List.length_take]; omega
    have hBl : B.length ≤ 2 := by rw [← hB, List.length_drop]; omega
    obtain ⟨R, hRe⟩ : ∃ R, failR s ((A ++ .fail n :: B).length : Nat) n = R := ⟨_, rfl⟩
    have hR0 : (limP s).2 = 0 → R = .fail 6 := fun h0 => by rw [← hRe]; unfold failR; rw [if_pos h0]
    have hR1 : (limP s).2 ≠ 0 → R = .fail 3 ∨ R = .fail n := fun h0 => by
      rw [← hRe]; unfold failR; rw [if_neg h0]
      split
      · exact .inl rfl
      · exact .inr rfl
    rw [hRe] at hC hFd hb
    clear hRe
    obtain ⟨H, hH⟩ : ∃ H, H = ACode.wp Tryd.prog c6_40 := ⟨_, rfl⟩
    have fin2 : ∀ (a2 : AFr) (σ2 : ASt) (kk : SK), Drop σ2 σ → U8 σ2 → Tens σ2 → (a2 0 = .str s ∧ a2 2 = .int .i64 n ∧ a2 15 = .int .i64 (failedP R).1 ∧ a2 16 = .bool true) → H (RetQ [.t 8] fun v σ' => v = .bool true ∧ σ' = σ) a2 σ2 := by
      intro a2 σ2 kk hd hU2 hT2 hf2
      rw [hH]
      have hAw2 := mawake_ok hU2 hT2
      by_cases h0 : (limP s).2 = 0
      · rw [hR0 h0] at hf2
        simp only [failedP] at hf2
        rw [h0, show decide ((0 : Int) < 0) = false by decide] at hHas
        simp (disch := first | assumption | omega | (simp only [List.length_append, List.length_cons, List.length_nil]; omega)) only [go_sem, reduceCtorEq, Nat.reduceEqDiff, Nat.reduceAdd, Nat.reduceSub, Nat.reduceMul, Nat.reduceLeDiff, Int.reduceLT, Int.reduceLE, Int.reduceEq, ↓reduceIte, Int.reduceNeg, Int.reduceAdd, Int.reduceSub, Int.reduceMul, true_imp_iff, forall_const, Nat.mul_one, Int.reduceToNat, Nat.reducePow, Int.reducePow, Bool.true_and, Bool.false_and, Bool.and_false, hf2]
        refine hHas.use ?_
        simp (disch := first | assumption | omega | (simp only [List.length_append, List.length_cons, List.length_nil]; omega)) only [go_sem, reduceCtorEq, Nat.reduceEqDiff, Nat.reduceAdd, Nat.reduceSub, Nat.reduceMul, Nat.reduceLeDiff, Int.reduceLT, Int.reduceLE, Int.reduceEq, ↓reduceIte, Int.reduceNeg, Int.reduceAdd, Int.reduceSub, Int.reduceMul, true_imp_iff, forall_const, Nat.mul_one, Int.reduceToNat, Nat.reducePow, Int.reducePow, Bool.true_and, Bool.false_and, Bool.and_false, hf2]
        refine hAw2.mono ?_
        rintro v σ' ⟨rfl, rfl⟩
        simp (disch := first | assumption | omega | (simp only [List.length_append, List.length_cons, List.length_nil]; omega)) only [go_sem, reduceCtorEq, Nat.reduceEqDiff, Nat.reduceAdd, Nat.reduceSub, Nat.reduceMul, Nat.reduceLeDiff, Int.reduceLT, Int.reduceLE, Int.reduceEq, ↓reduceIte, Int.reduceNeg, Int.reduceAdd, Int.reduceSub, Int.reduceMul, true_imp_iff, forall_const, Nat.mul_one, Int.reduceToNat, Nat.reducePow, Int.reducePow, Bool.true_and, Bool.false_and, Bool.and_false, hf2]
        exact retC_by hd (.refl _) ⟨rfl, rfl⟩
      · have hpos : 0 < (limP s).2 := by
          unfold limP at h0 ⊢
          repeat' split
          all_goals first | omega | (dsimp only; omega) | skip
          rename_i a b c d e
          rw [if_neg a, if_neg b, if_neg c, if_neg d, if_neg e] at h0
          exact absurd rfl h0
        rw [decide_eq_true hpos] at hHas
        have hN := call_none s h0
        simp only [PV.av] at hN
        have hR := hR1 h0
        rcases hR with hR | hR
        · rw [hR] at hf2
          simp only [failedP] at hf2
          simp (disch := first | assumption | omega | (simp only [List.length_append, List.length_cons, List.length_nil]; omega)) only [go_sem, reduceCtorEq, Nat.reduceEqDiff, Nat.reduceAdd, Nat.reduceSub, Nat.reduceMul, Nat.reduceLeDiff, Int.reduceLT, Int.reduceLE, Int.reduceEq, ↓reduceIte, Int.reduceNeg, Int.reduceAdd, Int.reduceSub, Int.reduceMul, true_imp_iff, forall_const, Nat.mul_one, Int.reduceToNat, Nat.reducePow, Int.reducePow, Bool.true_and, Bool.false_and, Bool.and_false, hf2]
          refine hHas.use ?_
          simp (disch := first | assumption | omega | (simp only [List.length_append, List.length_cons, List.length_nil]; omega)) only [go_sem, reduceCtorEq, Nat.reduceEqDiff, Nat.reduceAdd, Nat.reduceSub, Nat.reduceMul, Nat.reduceLeDiff, Int.reduceLT, Int.reduceLE, Int.reduceEq, ↓reduceIte, Int.reduceNeg, Int.reduceAdd, Int.reduceSub, Int.reduceMul, true_imp_iff, forall_const, Nat.mul_one, Int.reduceToNat, Nat.reducePow, Int.reducePow, Bool.true_and, Bool.false_and, Bool.and_false, hf2]
          refine ACalls.shr (by simp (disch := first | assumption | omega | (simp only [List.length_append, List.length_cons, List.length_nil]; omega)) only [go_sem, reduceCtorEq, Nat.reduceEqDiff, Nat.reduceAdd, Nat.reduceSub, Nat.reduceMul, Nat.reduceLeDiff, Int.reduceLT, Int.reduceLE, Int.reduceEq, ↓reduceIte, Int.reduceNeg, Int.reduceAdd, Int.reduceSub, Int.reduceMul, true_imp_iff, forall_const, Nat.mul_one, Int.reduceToNat, Nat.reducePow, Int.reducePow, Bool.true_and, Bool.false_and, Bool.and_false]) (hN.use ?_)
          simp (disch := first | assumption | omega | (simp only [List.length_append, List.length_cons, List.length_nil]; omega)) only [go_sem, reduceCtorEq, Nat.reduceEqDiff, Nat.reduceAdd, Nat.reduceSub, Nat.reduceMul, Nat.reduceLeDiff, Int.reduceLT, Int.reduceLE, Int.reduceEq, ↓reduceIte, Int.reduceNeg, Int.reduceAdd, Int.reduceSub, Int.reduceMul, true_imp_iff, forall_const, Nat.mul_one, Int.reduceToNat, Nat.reducePow, Int.reducePow, Bool.true_and, Bool.false_and, Bool.and_false, hf2]
          refine hN3.use ?_
          simp (disch := first | assumption | omega | (simp only [List.length_append, List.length_cons, List.length_nil]; omega)) only [go_sem, reduceCtorEq, Nat.reduceEqDiff, Nat.reduceAdd, Nat.reduceSub, Nat.reduceMul, Nat.reduceLeDiff, Int.reduceLT, Int.reduceLE, Int.reduceEq, ↓reduceIte, Int.reduceNeg, Int.reduceAdd, Int.reduceSub, Int.reduceMul, true_imp_iff, forall_const, Nat.mul_one, Int.reduceToNat, Nat.reducePow, Int.reducePow, Bool.true_and, Bool.false_and, Bool.and_false, hf2]
          refine hAw2.mono ?_
          rintro v σ' ⟨rfl, rfl⟩
          by_cases c3 : (3 : Int) = n
          · simp (disch := first | assumption | omega | (simp only [List.length_append, List.length_cons, List.length_nil]; omega)) only [go_sem, reduceCtorEq, Nat.reduceEqDiff, Nat.reduceAdd, Nat.reduceSub, Nat.reduceMul, Nat.reduceLeDiff, Int.reduceLT, Int.reduceLE, Int.reduceEq, ↓reduceIte, Int.reduceNeg, Int.reduceAdd, Int.reduceSub, Int.reduceMul, true_imp_iff, forall_const, Nat.mul_one, Int.reduceToNat, Nat.reducePow, Int.reducePow, Bool.true_and, Bool.false_and, Bool.and_false, hf2, c3]
            exact retC_by hd (.refl _) ⟨rfl, rfl⟩
          · simp (disch := first | assumption | omega | (simp only [List.length_append, List.length_cons, List.length_nil]; omega)) only [go_sem, reduceCtorEq, Nat.reduceEqDiff, Nat.reduceAdd, Nat.reduceSub, Nat.reduceMul, Nat.reduceLeDiff, Int.reduceLT, Int.reduceLE, Int.reduceEq, ↓reduceIte, Int.reduceNeg, Int.reduceAdd, Int.reduceSub, Int.reduceMul, true_imp_iff, forall_const, Nat.mul_one, Int.reduceToNat, Nat.reducePow, Int.reducePow, Bool.true_and, Bool.false_and, Bool.and_false, hf2, c3]
            exact retC_by hd (.refl _) ⟨rfl, rfl⟩
        · rw [hR] at hf2
          simp only [failedP] at hf2
          simp (disch := first | assumption | omega | (simp only [List.length_append, List.length_cons, List.length_nil]; omega)) only [go_sem, reduceCtorEq, Nat.reduceEqDiff, Nat.reduceAdd, Nat.reduceSub, Nat.reduceMul, Nat.reduceLeDiff, Int.reduceLT, Int.reduceLE, Int.reduceEq, ↓reduceIte, Int.reduceNeg, Int.reduceAdd, Int.reduceSub, Int.reduceMul, true_imp_iff, forall_const, Nat.mul_one, Int.reduceToNat, Nat.reducePow, Int.reducePow, Bool.true_and, Bool.false_and, Bool.and_false, hf2]
          refine hHas.use ?_
          simp (disch := first | assumption | omega | (simp only [List.length_append, List.length_cons, List.length_nil]; omega)) only [go_sem, reduceCtorEq, Nat.reduceEqDiff, Nat.reduceAdd, Nat.reduceSub, Nat.reduceMul, Nat.reduceLeDiff, Int.reduceLT, Int.reduceLE, Int.reduceEq, ↓reduceIte, Int.reduceNeg, Int.reduceAdd, Int.reduceSub, Int.reduceMul, true_imp_iff, forall_const, Nat.mul_one, Int.reduceToNat, Nat.reducePow, Int.reducePow, Bool.true_and, Bool.false_and, Bool.and_false, hf2]
          refine ACalls.shr (by simp (disch := first | assumption | omega | (simp only [List.length_append, List.length_cons, List.length_nil]; omega)) only [go_sem, reduceCtorEq, Nat.reduceEqDiff, Nat.reduceAdd, Nat.reduceSub, Nat.reduceMul, Nat.reduceLeDiff, Int.reduceLT, Int.reduceLE, Int.reduceEq, ↓reduceIte, Int.reduceNeg, Int.reduceAdd, Int.reduceSub, Int.reduceMul, true_imp_iff, forall_const, Nat.mul_one, Int.reduceToNat, Nat.reducePow, Int.reducePow, Bool.true_and, Bool.false_and, Bool.and_false]) (hN.use ?_)
          simp (disch := first | assumption | omega | (simp only [List.length_append, List.length_cons, List.length_nil]; omega)) only [go_sem, reduceCtorEq, Nat.reduceEqDiff, Nat.reduceAdd, Nat.reduceSub, Nat.reduceMul, Nat.reduceLeDiff, Int.reduceLT, Int.reduceLE, Int.reduceEq, ↓reduceIte, Int.reduceNeg, Int.reduceAdd, Int.reduceSub, Int.reduceMul, true_imp_iff, forall_const, Nat.mul_one, Int.reduceToNat, Nat.reducePow, Int.reducePow, Bool.true_and, Bool.false_and, Bool.and_false, hf2]
          refine hN3.use ?_
          simp (disch := first | assumption | omega | (simp only [List.length_append, List.length_cons, List.length_nil]; omega)) only [go_sem, reduceCtorEq, Nat.reduceEqDiff, Nat.reduceAdd, Nat.reduceSub, Nat.reduceMul, Nat.reduceLeDiff, Int.reduceLT, Int.reduceLE, Int.reduceEq, ↓reduceIte, Int.reduceNeg, Int.reduceAdd, Int.reduceSub, Int.reduceMul, true_imp_iff, forall_const, Nat.mul_one, Int.reduceToNat, Nat.reducePow, Int.reducePow, Bool.true_and, Bool.false_and, Bool.and_false, hf2]
          refine hAw2.mono ?_
          rintro v σ' ⟨rfl, rfl⟩
          simp (disch := first | assumption | omega | (simp only [List.length_append, List.length_cons, List.length_nil]; omega)) only [go_sem, reduceCtorEq, Nat.reduceEqDiff, Nat.reduceAdd, Nat.reduceSub, Nat.reduceMul, Nat.reduceLeDiff, Int.reduceLT, Int.reduceLE, Int.reduceEq, ↓reduceIte, Int.reduceNeg, Int.reduceAdd, Int.reduceSub, Int.reduceMul, true_imp_iff, forall_const, Nat.mul_one, Int.reduceToNat, Nat.reducePow, Int.reducePow, Bool.true_and, Bool.false_and, Bool.and_false, hf2]
          exact retC_by hd (.refl _) ⟨rfl, rfl⟩
    rw [hb] at hFd
    simp (disch := first | assumption | omega | (simp only [List.length_append, List.length_cons, List.length_nil]; omega)) only [go_sem, reduceCtorEq, Nat.reduceEqDiff, Nat.reduceAdd, Nat.reduceSub, Nat.reduceMul, Nat.reduceLeDiff, Int.reduceLT, Int.reduceLE, Int.reduceEq, ↓reduceIte, Int.reduceNeg, Int.reduceAdd, Int.reduceSub, Int.reduceMul, true_imp_iff, forall_const, Nat.mul_one, Int.reduceToNat, Nat.reducePow, Int.reducePow, Bool.true_and, Bool.false_and, Bool.and_false, hf, hs1, ←hH]
    refine appC_by (bytes := 48) (xs := []) (ys := A.map argAV) (Grown.start σ 4) (argAV_well A) (argAV_leaves A) (by simp; omega) (by simp; omega) fun k1 σ1 hg1 => ?_
    rw [List.nil_append] at hg1 ⊢
    have hAm : (A.map argAV).length ≤ 2 := by rw [List.length_map]; exact hAl
    simp (disch := first | assumption | omega | (simp only [List.length_append, List.length_cons, List.length_nil]; omega)) only [go_sem, reduceCtorEq, Nat.reduceEqDiff, Nat.reduceAdd, Nat.reduceSub, Nat.reduceMul, Nat.reduceLeDiff, Int.reduceLT, Int.reduceLE, Int.reduceEq, ↓reduceIte, Int.reduceNeg, Int.reduceAdd, Int.reduceSub, Int.reduceMul, true_imp_iff, forall_const, Nat.mul_one, Int.reduceToNat, Nat.reducePow, Int.reducePow, Bool.true_and, Bool.false_and, Bool.and_false, hf, ←hH]
    refine hO.use ?_
    simp (disch := first | assumption | omega | (simp only [List.length_append, List.length_cons, List.length_nil]; omega)) only [go_sem, reduceCtorEq, Nat.reduceEqDiff, Nat.reduceAdd, Nat.reduceSub, Nat.reduceMul, Nat.reduceLeDiff, Int.reduceLT, Int.reduceLE, Int.reduceEq, ↓reduceIte, Int.reduceNeg, Int.reduceAdd, Int.reduceSub, Int.reduceMul, true_imp_iff, forall_const, Nat.mul_one, Int.reduceToNat, Nat.reducePow, Int.reducePow, Bool.true_and, Bool.false_and, Bool.and_false, hf, argAV_any, argAV_len, ←hH]
    refine appC_by (bytes := 48) (ys := [argAV (.fail n)]) hg1 rfl rfl (by simp only [List.length_cons, List.length_nil]; omega) (by simp only [List.length_cons, List.length_nil]; omega) fun k2 σ2 hg2 => ?_
    have hBm : (B.map argAV).length ≤ 2 := by rw [List.length_map]; exact hBl
    have hXl : (A.map argAV ++ [argAV (.fail n)]).length ≤ 3 := by simp; omega
    have hXe : A.map argAV ++ [argAV (.fail n)] ++ B.map argAV = (A ++ .fail n :: B).map argAV := by simp
    generalize A.map argAV ++ [argAV (.fail n)] = X at *
    simp (disch := first | assumption | omega | (simp only [List.length_append, List.length_cons, List.length_nil]; omega)) only [go_sem, reduceCtorEq, Nat.reduceEqDiff, Nat.reduceAdd, Nat.reduceSub, Nat.reduceMul, Nat.reduceLeDiff, Int.reduceLT, Int.reduceLE, Int.reduceEq, ↓reduceIte, Int.reduceNeg, Int.reduceAdd, Int.reduceSub, Int.reduceMul, true_imp_iff, forall_const, Nat.mul_one, Int.reduceToNat, Nat.reducePow, Int.reducePow, Bool.true_and, Bool.false_and, Bool.and_false, hf, hs2, ←hH]
    refine appC_by (bytes := 48) (ys := B.map argAV) hg2 (argAV_well B) (argAV_leaves B) (by omega) (by omega) fun k3 σ3 hg3 => ?_
    rw [hXe] at hg3 ⊢
    generalize (A ++ .fail n :: B).map argAV = W at *
    simp (disch := first | assumption | omega | (simp only [List.length_append, List.length_cons, List.length_nil]; omega)) only [go_sem, reduceCtorEq, Nat.reduceEqDiff, Nat.reduceAdd, Nat.reduceSub, Nat.reduceMul, Nat.reduceLeDiff, Int.reduceLT, Int.reduceLE, Int.reduceEq, ↓reduceIte, Int.reduceNeg, Int.reduceAdd, Int.reduceSub, Int.reduceMul, true_imp_iff, forall_const, Nat.mul_one, Int.reduceToNat, Nat.reducePow, Int.reducePow, Bool.true_and, Bool.false_and, Bool.and_false, hf, ←hH]
    refine ACalls.shr (by simp (disch := first | assumption | omega | (simp only [List.length_append, List.length_cons, List.length_nil]; omega)) only [go_sem, reduceCtorEq, Nat.reduceEqDiff, Nat.reduceAdd, Nat.reduceSub, Nat.reduceMul, Nat.reduceLeDiff, Int.reduceLT, Int.reduceLE, Int.reduceEq, ↓reduceIte, Int.reduceNeg, Int.reduceAdd, Int.reduceSub, Int.reduceMul, true_imp_iff, forall_const, Nat.mul_one, Int.reduceToNat, Nat.reducePow, Int.reducePow, Bool.true_and, Bool.false_and, Bool.and_false]) (hC.use ?_)
    simp (disch := first | assumption | omega | (simp only [List.length_append, List.length_cons, List.length_nil]; omega)) only [go_sem, reduceCtorEq, Nat.reduceEqDiff, Nat.reduceAdd, Nat.reduceSub, Nat.reduceMul, Nat.reduceLeDiff, Int.reduceLT, Int.reduceLE, Int.reduceEq, ↓reduceIte, Int.reduceNeg, Int.reduceAdd, Int.reduceSub, Int.reduceMul, true_imp_iff, forall_const, Nat.mul_one, Int.reduceToNat, Nat.reducePow, Int.reducePow, Bool.true_and, Bool.false_and, Bool.and_false, ←hH]
    refine hFd.use ?_
    simp (disch := first | assumption | omega | (simp only [List.length_append, List.length_cons, List.length_nil]; omega)) only [go_sem, reduceCtorEq, Nat.reduceEqDiff, Nat.reduceAdd, Nat.reduceSub, Nat.reduceMul, Nat.reduceLeDiff, Int.reduceLT, Int.reduceLE, Int.reduceEq, ↓reduceIte, Int.reduceNeg, Int.reduceAdd, Int.reduceSub, Int.reduceMul, true_imp_iff, forall_const, Nat.mul_one, Int.reduceToNat, Nat.reducePow, Int.reducePow, Bool.true_and, Bool.false_and, Bool.and_false, ←hH]
    refine fin2 _ _ k3 hg3.drop (hg3.u8 hU) (hg3.at hT) ?_
    simp (disch := first | assumption | omega | (simp only [List.length_append, List.length_cons, List.length_nil]; omega)) only [go_sem, reduceCtorEq, Nat.reduceEqDiff, Nat.reduceAdd, Nat.reduceSub, Nat.reduceMul, Nat.reduceLeDiff, Int.reduceLT, Int.reduceLE, Int.reduceEq, ↓reduceIte, Int.reduceNeg, Int.reduceAdd, Int.reduceSub, Int.reduceMul, true_imp_iff, forall_const, Nat.mul_one, Int.reduceToNat, Nat.reducePow, Int.reducePow, Bool.true_and, Bool.false_and, Bool.and_false, hf]
  simp (disch := first | assumption | omega | (simp only [List.length_append, List.length_cons, List.length_nil]; omega)) only [go_sem, reduceCtorEq, Nat.reduceEqDiff, Nat.reduceAdd, Nat.reduceSub, Nat.reduceMul, Nat.reduceLeDiff, Int.reduceLT, Int.reduceLE, Int.reduceEq, ↓reduceIte, Int.reduceNeg, Int.reduceAdd, Int.reduceSub, Int.reduceMul, true_imp_iff, forall_const, Nat.mul_one, Int.reduceToNat, Nat.reducePow, Int.reducePow, Bool.true_and, Bool.false_and, Bool.and_false, h1, h2, h3, h4, ←hG]
  refine hAr.mono ?_
  rintro v σ' ⟨rfl, rfl⟩
  simp (disch := first | assumption | omega | (simp only [List.length_append, List.length_cons, List.length_nil]; omega)) only [go_sem, reduceCtorEq, Nat.reduceEqDiff, Nat.reduceAdd, Nat.reduceSub, Nat.reduceMul, Nat.reduceLeDiff, Int.reduceLT, Int.reduceLE, Int.reduceEq, ↓reduceIte, Int.reduceNeg, Int.reduceAdd, Int.reduceSub, Int.reduceMul, true_imp_iff, forall_const, Nat.mul_one, Int.reduceToNat, Nat.reducePow, Int.reducePow, Bool.true_and, Bool.false_and, Bool.and_false, ←hG]
  refine wp_loop_by (fun (i : Nat) a1 s2 => (i ≤ V.length ∧ ∀ v ∈ V.take i, (asNum v).2 = 0) ∧ (a1 0 = .str s ∧ a1 2 = .int .i64 n ∧ a1 3 = .int .i64 k ∧ a1 9 = .sl .shr (V.map argAV) ∧ a1 40 = .sl .shr (V.map argAV) ∧ a1 41 = .int .i64 V.length ∧ a1 42 = .int .i64 i) ∧ s2 = σ') (fun i => V.length - i) 0 (Dr.now ⟨⟨Nat.zero_le _, fun v hv => by simp at hv⟩, ?_, rfl⟩) ?_
  · simp (disch := first | assumption | omega | (simp only [List.length_append, List.length_cons, List.length_nil]; omega)) only [go_sem, reduceCtorEq, Nat.reduceEqDiff, Nat.reduceAdd, Nat.reduceSub, Nat.reduceMul, Nat.reduceLeDiff, Int.reduceLT, Int.reduceLE, Int.reduceEq, ↓reduceIte, Int.reduceNeg, Int.reduceAdd, Int.reduceSub, Int.reduceMul, true_imp_iff, forall_const, Nat.mul_one, Int.reduceToNat, Nat.reducePow, Int.reducePow, Bool.true_and, Bool.false_and, Bool.and_false]
  rintro i a1 s2 ⟨⟨hi, hz⟩, hf, rfl⟩
  by_cases hlt : i < V.length
  · have hlt' : (i : Int) < V.length := by omega
    have hx : V[i]? = some (V[i]'hlt) := List.getElem?_eq_getElem hlt
    have hsx := hsm _ (List.getElem_mem hlt)
    obtain ⟨x, hxe⟩ : ∃ x, V[i]'hlt = x := ⟨_, rfl⟩
    rw [hxe] at hx hsx
    have hmx := arg_get hx
    have hV := argval_ok x
    have hNn := asNumber_ok x hsx
    obtain ⟨z, hz2⟩ : ∃ z, (asNum x).2 = z := ⟨_, rfl⟩
    rw [hz2] at hNn
    unfold argAV at hmx hV hf
    simp (disch := first | assumption | omega | (simp only [List.length_append, List.length_cons, List.length_nil]; omega)) only [go_sem, reduceCtorEq, Nat.reduceEqDiff, Nat.reduceAdd, Nat.reduceSub, Nat.reduceMul, Nat.reduceLeDiff, Int.reduceLT, Int.reduceLE, Int.reduceEq, ↓reduceIte, Int.reduceNeg, Int.reduceAdd, Int.reduceSub, Int.reduceMul, true_imp_iff, forall_const, Nat.mul_one, Int.reduceToNat, Nat.reducePow, Int.reducePow, Bool.true_and, Bool.false_and, Bool.and_false, hf, hlt', hmx, ←hG]
    refine allocC_by fun c hc => ?_
    simp (disch := first | assumption | omega | (simp only [List.length_append, List.length_cons, List.length_nil]; omega)) only [go_sem, reduceCtorEq, Nat.reduceEqDiff, Nat.reduceAdd, Nat.reduceSub, Nat.reduceMul, Nat.reduceLeDiff, Int.reduceLT, Int.reduceLE, Int.reduceEq, ↓reduceIte, Int.reduceNeg, Int.reduceAdd, Int.reduceSub, Int.reduceMul, true_imp_iff, forall_const, Nat.mul_one, Int.reduceToNat, Nat.reducePow, Int.reducePow, Bool.true_and, Bool.false_and, Bool.and_false, hf, ←hG]
    refine hV.use ?_
    simp (disch := first | assumption | omega | (simp only [List.length_append, List.length_cons, List.length_nil]; omega)) only [go_sem, reduceCtorEq, Nat.reduceEqDiff, Nat.reduceAdd, Nat.reduceSub, Nat.reduceMul, Nat.reduceLeDiff, Int.reduceLT, Int.reduceLE, Int.reduceEq, ↓reduceIte, Int.reduceNeg, Int.reduceAdd, Int.reduceSub, Int.reduceMul, true_imp_iff, forall_const, Nat.mul_one, Int.reduceToNat, Nat.reducePow, Int.reducePow, Bool.true_and, Bool.false_and, Bool.and_false, hf, ←hG]
    refine hNn.use ?_
    by_cases hz0 : z = 0
    · subst hz0
      simp (disch := first | assumption | omega | (simp only [List.length_append, List.length_cons, List.length_nil]; omega)) only [go_sem, reduceCtorEq, Nat.reduceEqDiff, Nat.reduceAdd, Nat.reduceSub, Nat.reduceMul, Nat.reduceLeDiff, Int.reduceLT, Int.reduceLE, Int.reduceEq, ↓reduceIte, Int.reduceNeg, Int.reduceAdd, Int.reduceSub, Int.reduceMul, true_imp_iff, forall_const, Nat.mul_one, Int.reduceToNat, Nat.reducePow, Int.reducePow, Bool.true_and, Bool.false_and, Bool.and_false, hf, ←hG]
      refine ⟨i + 1, by dsimp only; omega, Dr.drop (Drop.set hc) ⟨⟨by omega, fun v hv => ?_⟩, ?_, rfl⟩⟩
      · obtain ⟨g1, g2⟩ := List.getElem?_eq_some_iff.1 hx
        rw [List.take_succ_eq_append_getElem g1, g2] at hv
        rcases List.mem_append.1 hv with h | h
        · exact hz v h
        · rw [List.mem_singleton.1 h]; exact hz2
      · unfold argAV
        simp (disch := first | assumption | omega | (simp only [List.length_append, List.length_cons, List.length_nil]; omega)) only [go_sem, reduceCtorEq, Nat.reduceEqDiff, Nat.reduceAdd, Nat.reduceSub, Nat.reduceMul, Nat.reduceLeDiff, Int.reduceLT, Int.reduceLE, Int.reduceEq, ↓reduceIte, Int.reduceNeg, Int.reduceAdd, Int.reduceSub, Int.reduceMul, true_imp_iff, forall_const, Nat.mul_one, Int.reduceToNat, Nat.reducePow, Int.reducePow, Bool.true_and, Bool.false_and, Bool.and_false, hf]
    · have hAw2 := mawake_ok (hU.set hc (r := some (.obj [.int .i64 1, .int .i64 1, .bool false, .sl .full [x.av]]))) (show Tens _ from by
        unfold Tens at hT ⊢
        rw [ASt.set_ne]
        · exact hT
        · intro e; rw [← e, hT] at hc; cases hc)
      simp (disch := first | assumption | omega | (simp only [List.length_append, List.length_cons, List.length_nil]; omega)) only [go_sem, reduceCtorEq, Nat.reduceEqDiff, Nat.reduceAdd, Nat.reduceSub, Nat.reduceMul, Nat.reduceLeDiff, Int.reduceLT, Int.reduceLE, Int.reduceEq, ↓reduceIte, Int.reduceNeg, Int.reduceAdd, Int.reduceSub, Int.reduceMul, true_imp_iff, forall_const, Nat.mul_one, Int.reduceToNat, Nat.reducePow, Int.reducePow, Bool.true_and, Bool.false_and, Bool.and_false, hf, hz0, ←hG]
      refine hAw2.mono ?_
      rintro v σ' ⟨rfl, rfl⟩
      simp (disch := first | assumption | omega | (simp only [List.length_append, List.length_cons, List.length_nil]; omega)) only [go_sem, reduceCtorEq, Nat.reduceEqDiff, Nat.reduceAdd, Nat.reduceSub, Nat.reduceMul, Nat.reduceLeDiff, Int.reduceLT, Int.reduceLE, Int.reduceEq, ↓reduceIte, Int.reduceNeg, Int.reduceAdd, Int.reduceSub, Int.reduceMul, true_imp_iff, forall_const, Nat.mul_one, Int.reduceToNat, Nat.reducePow, Int.reducePow, Bool.true_and, Bool.false_and, Bool.and_false]
      exact retC_by (Drop.set hc) (.refl _) ⟨rfl, rfl⟩
  · have hlt' : ¬ (i : Int) < V.length := by omega
    rw [List.take_of_length_le (by omega)] at hz
    simp (disch := first | assumption | omega | (simp only [List.length_append, List.length_cons, List.length_nil]; omega)) only [go_sem, reduceCtorEq, Nat.reduceEqDiff, Nat.reduceAdd, Nat.reduceSub, Nat.reduceMul, Nat.reduceLeDiff, Int.reduceLT, Int.reduceLE, Int.reduceEq, ↓reduceIte, Int.reduceNeg, Int.reduceAdd, Int.reduceSub, Int.reduceMul, true_imp_iff, forall_const, Nat.mul_one, Int.reduceToNat, Nat.reducePow, Int.reducePow, Bool.true_and, Bool.false_and, Bool.and_false, hf, hlt', ←hG]
    refine fin _ hz ?_
    simp (disch := first | assumption | omega | (simp only [List.length_append, List.length_cons, List.length_nil]; omega)) only [go_sem, reduceCtorEq, Nat.reduceEqDiff, Nat.reduceAdd, Nat.reduceSub, Nat.reduceMul, Nat.reduceLeDiff, Int.reduceLT, Int.reduceLE, Int.reduceEq, ↓reduceIte, Int.reduceNeg, Int.reduceAdd, Int.reduceSub, Int.reduceMul, true_imp_iff, forall_const, Nat.mul_one, Int.reduceToNat, Nat.reducePow, Int.reducePow, Bool.true_and, Bool.false_and, Bool.and_false, hf]
end Go.A
