/- The names of maths, its arguments. -/
import Derived.Test.YtmefepbdognkdaaDoorJa
import Derived.Test.YtmefepbdognkdaaDoorCodeJ
namespace Go.A
open Go.Proofs
set_option maxRecDepth 100000
set_option linter.unusedSimpArgs false
set_option linter.unusedVariables false

def sABS : List UInt8 := [65, 66, 83]
def sSIGN : List UInt8 := [83, 73, 71, 78]
def sINT : List UInt8 := [73, 78, 84]
def sSQRT : List UInt8 := [83, 81, 82, 84]
def sFACT : List UInt8 := [70, 65, 67, 84]
def sEVEN : List UInt8 := [69, 86, 69, 78]
def sODD : List UInt8 := [79, 68, 68]
def sTRUNC : List UInt8 := [84, 82, 85, 78, 67]
def sFLOOR : List UInt8 := [70, 76, 79, 79, 82]
def sCEIL : List UInt8 := [67, 69, 73, 76, 73, 78, 71]
def sROUND : List UInt8 := [82, 79, 85, 78, 68]
def sUP : List UInt8 := [82, 79, 85, 78, 68, 85, 80]
def sDOWN : List UInt8 := [82, 79, 85, 78, 68, 68, 79, 87, 78]
def sMROUND : List UInt8 := [77, 82, 79, 85, 78, 68]
def sMOD : List UInt8 := [77, 79, 68]
def sQUOT : List UInt8 := [81, 85, 79, 84, 73, 69, 78, 84]
def sPOWER : List UInt8 := [80, 79, 87, 69, 82]
def sCLAMP : List UInt8 := [67, 76, 65, 77, 80]
def sGCD : List UInt8 := [71, 67, 68]
def sLCM : List UInt8 := [76, 67, 77]
/-- How many arguments. -/
def limP (s : List UInt8) : Int × Int :=
  if s ∈ [sABS, sSIGN, sINT, sSQRT, sFACT, sEVEN, sODD] then (1, 1)
  else if s ∈ [sTRUNC, sFLOOR, sCEIL, sROUND, sUP, sDOWN] then (1, 2)
  else if s ∈ [sMROUND, sMOD, sQUOT, sPOWER] then (2, 2)
  else if s = sCLAMP then (3, 3)
  else if s ∈ [sGCD, sLCM] then (1, 30)
  else (0, 0)
set_option maxHeartbeats 1000000 in
theorem limits_ok (s : List UInt8) : Pure Tryd.prog 31 [.str s] (.tuple [.int .i64 (limP s).1, .int .i64 (limP s).2]) := by
  intro σ
  refine a31 (by simp) ?_
  repeat' (first | (simp (disch := first | assumption | omega | (simp only [List.length_append, List.length_cons, List.length_nil]; omega)) only [go_sem, reduceCtorEq, Nat.reduceEqDiff, Nat.reduceAdd, Nat.reduceSub, Nat.reduceMul, Nat.reduceLeDiff, Int.reduceLT, Int.reduceLE, Int.reduceEq, ↓reduceIte, Int.reduceNeg, Int.reduceAdd, Int.reduceSub, Int.reduceMul, true_imp_iff, forall_const, Nat.mul_one, Int.reduceToNat, Nat.reducePow, Int.reducePow, Bool.true_and, Bool.false_and, Bool.and_false]) | with_reducible refine gC_d (fun h => ?_) (fun h => ?_) | with_reducible refine gC_dn (fun h => ?_) (fun h => ?_) | with_reducible refine condC_d (fun h => ?_) (fun h => ?_) | with_reducible refine condC_n (fun h => ?_) (fun h => ?_) | with_reducible refine condC_b (fun h => ?_) (fun h => ?_) | with_reducible refine boxC_by ?_ fun b hb => ?_)
  all_goals refine retC_by (by repeat' (first | exact Drop.refl _ | with_reducible refine Drop.off ?_ (by assumption))) (.refl _) ⟨?_, rfl⟩
  all_goals simp [resV_one, limP, sABS, sSIGN, sINT, sSQRT, sFACT, sEVEN, sODD, sTRUNC, sFLOOR, sCEIL, sROUND, sUP, sDOWN, sMROUND, sMOD, sQUOT, sPOWER, sCLAMP, sGCD, sLCM, *]
  all_goals rfl
theorem mhas_ok (s : List UInt8) : Pure Tryd.prog 21 [.str s] (.bool (decide (0 < (limP s).2))) := by
  intro σ
  have hL := limits_ok s
  generalize (limP s).1 = x at *
  generalize (limP s).2 = y at *
  refine a21 (by simp) ?_
  simp (disch := first | assumption | omega | (simp only [List.length_append, List.length_cons, List.length_nil]; omega)) only [go_sem, reduceCtorEq, Nat.reduceEqDiff, Nat.reduceAdd, Nat.reduceSub, Nat.reduceMul, Nat.reduceLeDiff, Int.reduceLT, Int.reduceLE, Int.reduceEq, ↓reduceIte, Int.reduceNeg, Int.reduceAdd, Int.reduceSub, Int.reduceMul, true_imp_iff, forall_const, Nat.mul_one, Int.reduceToNat, Nat.reducePow, Int.reducePow, Bool.true_and, Bool.false_and, Bool.and_false]
  refine hL.use ?_
  simp (disch := first | assumption | omega | (simp only [List.length_append, List.length_cons, List.length_nil]; omega)) only [go_sem, reduceCtorEq, Nat.reduceEqDiff, Nat.reduceAdd, Nat.reduceSub, Nat.reduceMul, Nat.reduceLeDiff, Int.reduceLT, Int.reduceLE, Int.reduceEq, ↓reduceIte, Int.reduceNeg, Int.reduceAdd, Int.reduceSub, Int.reduceMul, true_imp_iff, forall_const, Nat.mul_one, Int.reduceToNat, Nat.reducePow, Int.reducePow, Bool.true_and, Bool.false_and, Bool.and_false]
  exact retC_by (by repeat' (first | exact Drop.refl _ | with_reducible refine Drop.off ?_ (by assumption))) (.refl _) ⟨rfl, rfl⟩
/-- The arguments' numbers; the first failure. -/
def numsA : List Int → List PV → List Int ⊕ Int
  | acc, [] => .inl acc
  | acc, v :: r => if (asNum v).2 = 0 then numsA (acc ++ [(asNum v).1]) r else .inr (asNum v).2
def numsAV : List Int ⊕ Int → AV
  | .inl L => .tuple [.sl .shr (L.map (AV.int .i64)), .int .i64 0]
  | .inr f => .tuple [.sl .shr [], .int .i64 f]
theorem arg_get {L : List PV} {i : Nat} {v : PV} (h : L[i]? = some v) : (L.map argAV)[i]? = some (argAV v) := by rw [List.getElem?_map, h]; rfl
set_option maxHeartbeats 1000000 in
theorem numbers_ok (L : List PV) (hn : L.length ≤ 1000000) (hs : ∀ v ∈ L, v.small) : Pure Tryd.prog 32 [.sl .shr (L.map argAV)] (numsAV (numsA [] L)) := by
  intro σ
  obtain ⟨R, hR⟩ : ∃ R, numsA [] L = R := ⟨_, rfl⟩
  rw [hR]
  refine a32 (by simp) ?_
  obtain ⟨F, hF⟩ : ∃ F, F = ACode.wp Tryd.prog c32_25 := ⟨_, rfl⟩
  simp (disch := first | assumption | omega | (simp only [List.length_append, List.length_cons, List.length_nil]; omega)) only [go_sem, reduceCtorEq, Nat.reduceEqDiff, Nat.reduceAdd, Nat.reduceSub, Nat.reduceMul, Nat.reduceLeDiff, Int.reduceLT, Int.reduceLE, Int.reduceEq, ↓reduceIte, Int.reduceNeg, Int.reduceAdd, Int.reduceSub, Int.reduceMul, true_imp_iff, forall_const, Nat.mul_one, Int.reduceToNat, Nat.reducePow, Int.reducePow, Bool.true_and, Bool.false_and, Bool.and_false, ←hF]
  refine wp_loop_by (fun (i : Nat) a σ' => i ≤ L.length ∧ (a 9 = .sl .shr (L.map argAV) ∧ a 10 = .int .i64 L.length ∧ a 11 = .int .i64 i) ∧ ∃ (acc : List Int) (k : SK), R = numsA acc (L.drop i) ∧ acc.length = i ∧ a 4 = .sl k (acc.map (AV.int .i64)) ∧ Grown σ σ' k (acc.map (AV.int .i64)).length 1)
    (fun i => L.length - i) 0 (Dr.now ⟨Nat.zero_le _, ?_, [], .full, hR.symm, rfl, ?_, .inl ⟨rfl, by simp, rfl⟩⟩) ?_
  · simp (disch := first | assumption | omega | (simp only [List.length_append, List.length_cons, List.length_nil]; omega)) only [go_sem, reduceCtorEq, Nat.reduceEqDiff, Nat.reduceAdd, Nat.reduceSub, Nat.reduceMul, Nat.reduceLeDiff, Int.reduceLT, Int.reduceLE, Int.reduceEq, ↓reduceIte, Int.reduceNeg, Int.reduceAdd, Int.reduceSub, Int.reduceMul, true_imp_iff, forall_const, Nat.mul_one, Int.reduceToNat, Nat.reducePow, Int.reducePow, Bool.true_and, Bool.false_and, Bool.and_false]
  · simp (disch := first | assumption | omega | (simp only [List.length_append, List.length_cons, List.length_nil]; omega)) only [go_sem, reduceCtorEq, Nat.reduceEqDiff, Nat.reduceAdd, Nat.reduceSub, Nat.reduceMul, Nat.reduceLeDiff, Int.reduceLT, Int.reduceLE, Int.reduceEq, ↓reduceIte, Int.reduceNeg, Int.reduceAdd, Int.reduceSub, Int.reduceMul, true_imp_iff, forall_const, Nat.mul_one, Int.reduceToNat, Nat.reducePow, Int.reducePow, Bool.true_and, Bool.false_and, Bool.and_false]
  rintro i a σ1 ⟨hi, hf, acc, k, hA, hl, h4, hg⟩
  by_cases hlt : i < L.length
  · have hlt' : (i : Int) < L.length := by omega
    have hx : L[i]? = some (L[i]'hlt) := List.getElem?_eq_getElem hlt
    rw [List.drop_eq_getElem_cons hlt] at hA
    have hsm := hs _ (List.getElem_mem hlt)
    obtain ⟨v, hv⟩ : ∃ v, L[i]'hlt = v := ⟨_, rfl⟩
    rw [hv] at hx hA hsm
    have hmx := arg_get hx
    have hV := argval_ok v
    have hN := asNumber_ok v hsm
    unfold argAV at hmx hV
    unfold argAV at hf
    rw [numsA] at hA
    obtain ⟨x, hxe⟩ : ∃ x, v.av = x := ⟨_, rfl⟩
    rw [hxe] at hmx hV hN
    obtain ⟨n, hne⟩ : ∃ n, (asNum v).1 = n := ⟨_, rfl⟩
    obtain ⟨f, hfe⟩ : ∃ f, (asNum v).2 = f := ⟨_, rfl⟩
    rw [hne, hfe] at hA hN
    simp (disch := first | assumption | omega | (simp only [List.length_append, List.length_cons, List.length_nil]; omega)) only [go_sem, reduceCtorEq, Nat.reduceEqDiff, Nat.reduceAdd, Nat.reduceSub, Nat.reduceMul, Nat.reduceLeDiff, Int.reduceLT, Int.reduceLE, Int.reduceEq, ↓reduceIte, Int.reduceNeg, Int.reduceAdd, Int.reduceSub, Int.reduceMul, true_imp_iff, forall_const, Nat.mul_one, Int.reduceToNat, Nat.reducePow, Int.reducePow, Bool.true_and, Bool.false_and, Bool.and_false, hf, h4, hlt', hmx, ←hF]
    refine allocC_by fun c hc => ?_
    obtain ⟨hga, hc0⟩ := hg.upon hc (q := .obj [.int .i64 1, .int .i64 1, .bool false, .sl .full [x]])
    simp (disch := first | assumption | omega | (simp only [List.length_append, List.length_cons, List.length_nil]; omega)) only [go_sem, reduceCtorEq, Nat.reduceEqDiff, Nat.reduceAdd, Nat.reduceSub, Nat.reduceMul, Nat.reduceLeDiff, Int.reduceLT, Int.reduceLE, Int.reduceEq, ↓reduceIte, Int.reduceNeg, Int.reduceAdd, Int.reduceSub, Int.reduceMul, true_imp_iff, forall_const, Nat.mul_one, Int.reduceToNat, Nat.reducePow, Int.reducePow, Bool.true_and, Bool.false_and, Bool.and_false, hf, h4, ←hF]
    refine hV.use ?_
    simp (disch := first | assumption | omega | (simp only [List.length_append, List.length_cons, List.length_nil]; omega)) only [go_sem, reduceCtorEq, Nat.reduceEqDiff, Nat.reduceAdd, Nat.reduceSub, Nat.reduceMul, Nat.reduceLeDiff, Int.reduceLT, Int.reduceLE, Int.reduceEq, ↓reduceIte, Int.reduceNeg, Int.reduceAdd, Int.reduceSub, Int.reduceMul, true_imp_iff, forall_const, Nat.mul_one, Int.reduceToNat, Nat.reducePow, Int.reducePow, Bool.true_and, Bool.false_and, Bool.and_false, hf, h4, ←hF]
    refine hN.use ?_
    by_cases hf0 : f = 0
    · subst hf0
      rw [if_pos rfl] at hA
      simp (disch := first | assumption | omega | (simp only [List.length_append, List.length_cons, List.length_nil]; omega)) only [go_sem, reduceCtorEq, Nat.reduceEqDiff, Nat.reduceAdd, Nat.reduceSub, Nat.reduceMul, Nat.reduceLeDiff, Int.reduceLT, Int.reduceLE, Int.reduceEq, ↓reduceIte, Int.reduceNeg, Int.reduceAdd, Int.reduceSub, Int.reduceMul, true_imp_iff, forall_const, Nat.mul_one, Int.reduceToNat, Nat.reducePow, Int.reducePow, Bool.true_and, Bool.false_and, Bool.and_false, hf, h4, ←hF]
      refine appC_by hga rfl rfl (by simp; omega) (by simp; omega) fun k' σ' hg' => ?_
      have hap : acc.map (AV.int .i64) ++ [AV.int .i64 n] = (acc ++ [n]).map (AV.int .i64) := by simp
      rw [hap] at hg' ⊢
      obtain ⟨σ2, hd, hg2⟩ := hg'.off hc0
      simp (disch := first | assumption | omega | (simp only [List.length_append, List.length_cons, List.length_nil]; omega)) only [go_sem, reduceCtorEq, Nat.reduceEqDiff, Nat.reduceAdd, Nat.reduceSub, Nat.reduceMul, Nat.reduceLeDiff, Int.reduceLT, Int.reduceLE, Int.reduceEq, ↓reduceIte, Int.reduceNeg, Int.reduceAdd, Int.reduceSub, Int.reduceMul, true_imp_iff, forall_const, Nat.mul_one, Int.reduceToNat, Nat.reducePow, Int.reducePow, Bool.true_and, Bool.false_and, Bool.and_false, hf, ←hF]
      refine ⟨i + 1, by dsimp only; omega, Dr.drop hd ⟨by omega, ?_, acc ++ [n], k', hA, by simp; omega, ?_, by simpa using hg2⟩⟩
      · unfold argAV
        simp (disch := first | assumption | omega | (simp only [List.length_append, List.length_cons, List.length_nil]; omega)) only [go_sem, reduceCtorEq, Nat.reduceEqDiff, Nat.reduceAdd, Nat.reduceSub, Nat.reduceMul, Nat.reduceLeDiff, Int.reduceLT, Int.reduceLE, Int.reduceEq, ↓reduceIte, Int.reduceNeg, Int.reduceAdd, Int.reduceSub, Int.reduceMul, true_imp_iff, forall_const, Nat.mul_one, Int.reduceToNat, Nat.reducePow, Int.reducePow, Bool.true_and, Bool.false_and, Bool.and_false, hf]
      · rfl
    · rw [if_neg hf0] at hA
      subst hA
      simp (disch := first | assumption | omega | (simp only [List.length_append, List.length_cons, List.length_nil]; omega)) only [go_sem, reduceCtorEq, Nat.reduceEqDiff, Nat.reduceAdd, Nat.reduceSub, Nat.reduceMul, Nat.reduceLeDiff, Int.reduceLT, Int.reduceLE, Int.reduceEq, ↓reduceIte, Int.reduceNeg, Int.reduceAdd, Int.reduceSub, Int.reduceMul, true_imp_iff, forall_const, Nat.mul_one, Int.reduceToNat, Nat.reducePow, Int.reducePow, Bool.true_and, Bool.false_and, Bool.and_false, hf, hf0, ←hF]
      exact retC_by (hg.drop.over hc0) (.tuple (.cons (.sl _ _) (.cons (.refl _) .nil))) ⟨rfl, rfl⟩
  · have hlt' : ¬ (i : Int) < L.length := by omega
    rw [List.drop_eq_nil_of_le (by omega), numsA] at hA
    subst hA
    simp only [numsAV]
    simp (disch := first | assumption | omega | (simp only [List.length_append, List.length_cons, List.length_nil]; omega)) only [go_sem, reduceCtorEq, Nat.reduceEqDiff, Nat.reduceAdd, Nat.reduceSub, Nat.reduceMul, Nat.reduceLeDiff, Int.reduceLT, Int.reduceLE, Int.reduceEq, ↓reduceIte, Int.reduceNeg, Int.reduceAdd, Int.reduceSub, Int.reduceMul, true_imp_iff, forall_const, Nat.mul_one, Int.reduceToNat, Nat.reducePow, Int.reducePow, Bool.true_and, Bool.false_and, Bool.and_false, hf, h4, hlt', ←hF]
    rw [hF]
    simp (disch := first | assumption | omega | (simp only [List.length_append, List.length_cons, List.length_nil]; omega)) only [go_sem, reduceCtorEq, Nat.reduceEqDiff, Nat.reduceAdd, Nat.reduceSub, Nat.reduceMul, Nat.reduceLeDiff, Int.reduceLT, Int.reduceLE, Int.reduceEq, ↓reduceIte, Int.reduceNeg, Int.reduceAdd, Int.reduceSub, Int.reduceMul, true_imp_iff, forall_const, Nat.mul_one, Int.reduceToNat, Nat.reducePow, Int.reducePow, Bool.true_and, Bool.false_and, Bool.and_false, h4]
    exact retC_by hg.drop (.tuple (.cons (.sl _ _) (.cons (.refl _) .nil))) ⟨rfl, rfl⟩
end Go.A
