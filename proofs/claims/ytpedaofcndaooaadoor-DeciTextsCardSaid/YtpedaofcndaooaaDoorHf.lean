/- Parse walked; the awake call; DeciBack. -/
import Derived.Test.YtpedaofcndaooaaDoorHe
import Derived.Test.YtpedaofcndaooaaDoorCodeEa
namespace Go.A
open Go.Proofs
set_option maxRecDepth 100000
set_option linter.unusedSimpArgs false
set_option linter.unusedVariables false

theorem prefix_minus (s : List UInt8) : Lib.hasPrefix s [45] = decide (s.head? = some 45) := by
  unfold Lib.hasPrefix
  cases s with
  | nil => rfl
  | cons c l =>
    simp only [List.isPrefixOf, Bool.and_true, List.head?_cons, Option.some.injEq]
    by_cases h : c = 45
    · subst h; rfl
    · have h1 : (45 == c) = false := by simpa using fun e => h e.symm
      rw [h1]; simp [h]
theorem trim_minus (s : List UInt8) : Lib.trimPrefix s [45] = if s.head? = some 45 then s.drop 1 else s := by
  unfold Lib.trimPrefix
  rw [prefix_minus]
  by_cases h : s.head? = some 45
  · simp [h]
  · simp [h]
theorem cut_len (l : List UInt8) (c : UInt8) : (Lib.cut l [c]).1.length + (Lib.cut l [c]).2.1.length ≤ l.length := by
  unfold Lib.cut
  split
  · have := Lib.index_room l [c] (by assumption)
    simp at this ⊢
    omega
  · simp
theorem acc_bound : ∀ (l : List UInt8) (n m : Nat), n ≤ 999999999999999999 → accP n l = some m → m ≤ 999999999999999999
  | [], n, m, h, e => by simp [accP] at e; omega
  | c :: l, n, m, h, e => by
    rw [accP] at e
    split at e
    · cases e
    · exact acc_bound l _ m (by omega) e
set_option maxHeartbeats 1000000 in
theorem parse_ok (s : List UInt8) (hs : s.length ≤ 100000) : Pure Tryd.prog 11 [.str s] (resAV (parseD s)) := by
  intro σ
  have hP := cutPrefix_ok s [45]
  rw [prefix_minus, trim_minus] at hP
  obtain ⟨R, hR⟩ : ∃ R, parseD s = R := ⟨_, rfl⟩
  rw [hR]
  unfold parseD at hR
  dsimp only at hR
  generalize hm : decide (s.head? = some 45) = minus at *
  have hbl : (if s.head? = some 45 then s.drop 1 else s).length ≤ 100000 := by
    split
    · rw [List.length_drop]; omega
    · exact hs
  generalize (if s.head? = some 45 then s.drop 1 else s) = body at *
  have hC := cutc_ok body 46 (by omega)
  have hCl := cut_len body 46
  have hnf : (Lib.cut body [46]).2.2 = false → (Lib.cut body [46]).2.1 = [] := by
    unfold Lib.cut
    split <;> simp
  generalize (Lib.cut body [46]).1 = whole at *
  generalize (Lib.cut body [46]).2.1 = part at *
  generalize (Lib.cut body [46]).2.2 = dot at *
  unfold parseQ at hR
  obtain ⟨F, hF⟩ : ∃ F, F = ACode.wp Tryd.prog c11_32 := ⟨_, rfl⟩
  have fin : ∀ (a : AFr), part.length ≤ 4 → (accP 0 (whole ++ part ++ List.replicate (4 - part.length) 48)).bind (madeP minus) = R → (a 5 = .bool minus ∧ a 6 = .str whole ∧ a 7 = .str part) → F (RetQ [.t 2, .t 3] fun v σ' => v = resAV R ∧ σ' = σ) a σ := by
    intro a hp4 hacc hf
    rw [hF]
    have hl2 : whole.length + part.length ≤ 9223372036854775807 := by omega
    have g4 : (part.length : Int) ≤ 4 := by omega
    have e0 : ([48, 48, 48, 48] : List UInt8).drop part.length = List.replicate (4 - part.length) 48 := by
      have : part.length = 0 ∨ part.length = 1 ∨ part.length = 2 ∨ part.length = 3 ∨ part.length = 4 := by omega
      rcases this with h | h | h | h | h <;> rw [h] <;> rfl
    have e1 : binS .add (whole ++ part) (List.replicate (4 - part.length) 48) = some (.str (whole ++ part ++ List.replicate (4 - part.length) 48)) := binS_add (by simp; omega)
    obtain ⟨M, hM⟩ : ∃ M, whole ++ part ++ List.replicate (4 - part.length) 48 = M := ⟨_, rfl⟩
    rw [hM] at hacc e1
    have hMl : M.length ≤ 1000000 := by rw [← hM]; simp; omega
    simp (disch := first | assumption | omega | (simp only [List.length_append, List.length_cons, List.length_nil]; omega)) only [go_sem, reduceCtorEq, Nat.reduceEqDiff, Nat.reduceAdd, Nat.reduceSub, Nat.reduceMul, Nat.reduceLeDiff, Int.reduceLT, Int.reduceLE, Int.reduceEq, ↓reduceIte, Int.reduceNeg, Int.reduceAdd, Int.reduceSub, Int.reduceMul, true_imp_iff, forall_const, Nat.mul_one, Int.reduceToNat, Nat.reducePow, Int.reducePow, Bool.true_and, Bool.false_and, Bool.and_false, hf, hl2, g4, e0, e1]
    refine s2b_shr ?_
    simp (disch := first | assumption | omega | (simp only [List.length_append, List.length_cons, List.length_nil]; omega)) only [go_sem, reduceCtorEq, Nat.reduceEqDiff, Nat.reduceAdd, Nat.reduceSub, Nat.reduceMul, Nat.reduceLeDiff, Int.reduceLT, Int.reduceLE, Int.reduceEq, ↓reduceIte, Int.reduceNeg, Int.reduceAdd, Int.reduceSub, Int.reduceMul, true_imp_iff, forall_const, Nat.mul_one, Int.reduceToNat, Nat.reducePow, Int.reducePow, Bool.true_and, Bool.false_and, Bool.and_false, hf]
    refine wp_loop_on (fun (i : Nat) a σ' => i ≤ M.length ∧ (∃ n : Nat, n ≤ 999999999999999999 ∧ accP 0 M = accP n (M.drop i) ∧ a 9 = .int .u64 n) ∧ (a 5 = .bool minus ∧ a 44 = .sl .shr (bytesAV M) ∧ a 45 = .int .i64 M.length ∧ a 46 = .int .i64 i) ∧ σ' = σ) (fun i => M.length - i) 0 ⟨Nat.zero_le _, ⟨0, by omega, rfl, ?_⟩, ?_, rfl⟩ ?_
    · simp (disch := first | assumption | omega | (simp only [List.length_append, List.length_cons, List.length_nil]; omega)) only [go_sem, reduceCtorEq, Nat.reduceEqDiff, Nat.reduceAdd, Nat.reduceSub, Nat.reduceMul, Nat.reduceLeDiff, Int.reduceLT, Int.reduceLE, Int.reduceEq, ↓reduceIte, Int.reduceNeg, Int.reduceAdd, Int.reduceSub, Int.reduceMul, true_imp_iff, forall_const, Nat.mul_one, Int.reduceToNat, Nat.reducePow, Int.reducePow, Bool.true_and, Bool.false_and, Bool.and_false, hf]
    · simp (disch := first | assumption | omega | (simp only [List.length_append, List.length_cons, List.length_nil]; omega)) only [go_sem, reduceCtorEq, Nat.reduceEqDiff, Nat.reduceAdd, Nat.reduceSub, Nat.reduceMul, Nat.reduceLeDiff, Int.reduceLT, Int.reduceLE, Int.reduceEq, ↓reduceIte, Int.reduceNeg, Int.reduceAdd, Int.reduceSub, Int.reduceMul, true_imp_iff, forall_const, Nat.mul_one, Int.reduceToNat, Nat.reducePow, Int.reducePow, Bool.true_and, Bool.false_and, Bool.and_false, hf]
    rintro i a σ1 ⟨hi, ⟨n, hn, hac, hf9⟩, hf, rfl⟩
    rw [hac] at hacc
    by_cases hlt : i < M.length
    · have hidx : M[i]? = some (M[i]'hlt) := List.getElem?_eq_getElem hlt
      rw [List.drop_eq_getElem_cons hlt] at hac hacc
      obtain ⟨c, hc⟩ : ∃ c, M[i]'hlt = c := ⟨_, rfl⟩
      rw [hc] at hidx hac hacc
      have hlt' : (i : Int) < M.length := by omega
      have hcb : c.toNat < 256 := c.toNat_lt
      rw [accP] at hac hacc
      by_cases h1 : c.toNat < 48
      · have h1' : (c.toNat : Int) < 48 := by omega
        rw [if_pos (by omega)] at hacc
        subst hacc
        simp (disch := first | assumption | omega | (simp only [List.length_append, List.length_cons, List.length_nil]; omega)) only [go_sem, reduceCtorEq, Nat.reduceEqDiff, Nat.reduceAdd, Nat.reduceSub, Nat.reduceMul, Nat.reduceLeDiff, Int.reduceLT, Int.reduceLE, Int.reduceEq, ↓reduceIte, Int.reduceNeg, Int.reduceAdd, Int.reduceSub, Int.reduceMul, true_imp_iff, forall_const, Nat.mul_one, Int.reduceToNat, Nat.reducePow, Int.reducePow, Bool.true_and, Bool.false_and, Bool.and_false, hf, hf9, hlt', hidx, h1']
        exact retC_by (by repeat' (first | exact Drop.refl _ | with_reducible refine Drop.off ?_ (by assumption))) (.refl _) ⟨rfl, rfl⟩
      have h1' : ¬ (c.toNat : Int) < 48 := by omega
      by_cases h2 : 57 < c.toNat
      · have h2' : (57 : Int) < c.toNat := by omega
        rw [if_pos (by omega)] at hacc
        subst hacc
        simp (disch := first | assumption | omega | (simp only [List.length_append, List.length_cons, List.length_nil]; omega)) only [go_sem, reduceCtorEq, Nat.reduceEqDiff, Nat.reduceAdd, Nat.reduceSub, Nat.reduceMul, Nat.reduceLeDiff, Int.reduceLT, Int.reduceLE, Int.reduceEq, ↓reduceIte, Int.reduceNeg, Int.reduceAdd, Int.reduceSub, Int.reduceMul, true_imp_iff, forall_const, Nat.mul_one, Int.reduceToNat, Nat.reducePow, Int.reducePow, Bool.true_and, Bool.false_and, Bool.and_false, hf, hf9, hlt', hidx, h1', h2']
        exact retC_by (by repeat' (first | exact Drop.refl _ | with_reducible refine Drop.off ?_ (by assumption))) (.refl _) ⟨rfl, rfl⟩
      have h2' : ¬ (57 : Int) < c.toNat := by omega
      by_cases h3 : 99999999999999999 < n
      · have h3' : (99999999999999999 : Int) < n := by omega
        rw [if_pos (by omega)] at hacc
        subst hacc
        simp (disch := first | assumption | omega | (simp only [List.length_append, List.length_cons, List.length_nil]; omega)) only [go_sem, reduceCtorEq, Nat.reduceEqDiff, Nat.reduceAdd, Nat.reduceSub, Nat.reduceMul, Nat.reduceLeDiff, Int.reduceLT, Int.reduceLE, Int.reduceEq, ↓reduceIte, Int.reduceNeg, Int.reduceAdd, Int.reduceSub, Int.reduceMul, true_imp_iff, forall_const, Nat.mul_one, Int.reduceToNat, Nat.reducePow, Int.reducePow, Bool.true_and, Bool.false_and, Bool.and_false, hf, hf9, hlt', hidx, h1', h2', h3']
        exact retC_by (by repeat' (first | exact Drop.refl _ | with_reducible refine Drop.off ?_ (by assumption))) (.refl _) ⟨rfl, rfl⟩
      have h3' : ¬ (99999999999999999 : Int) < n := by omega
      rw [if_neg (by omega)] at hac hacc
      obtain ⟨n2, hn2⟩ : ∃ n2 : Nat, 10 * n + (c.toNat - 48) = n2 := ⟨_, rfl⟩
      rw [hn2] at hac hacc
      have e2 : 10 * (n : Int) + ((c.toNat : Int) - 48) = n2 := by omega
      simp (disch := first | assumption | omega | (simp only [List.length_append, List.length_cons, List.length_nil]; omega)) only [go_sem, reduceCtorEq, Nat.reduceEqDiff, Nat.reduceAdd, Nat.reduceSub, Nat.reduceMul, Nat.reduceLeDiff, Int.reduceLT, Int.reduceLE, Int.reduceEq, ↓reduceIte, Int.reduceNeg, Int.reduceAdd, Int.reduceSub, Int.reduceMul, true_imp_iff, forall_const, Nat.mul_one, Int.reduceToNat, Nat.reducePow, Int.reducePow, Bool.true_and, Bool.false_and, Bool.and_false, hf, hf9, hlt', hidx, h1', h2', h3', e2]
      exact ⟨i + 1, by omega, by omega, ⟨n2, by omega, hac, rfl⟩, rfl⟩
    · have hlt' : ¬ (i : Int) < M.length := by omega
      rw [List.drop_eq_nil_of_le (by omega), accP, Option.bind_some] at hacc
      subst hacc
      have hMd := made_ok minus n (by omega)
      simp (disch := first | assumption | omega | (simp only [List.length_append, List.length_cons, List.length_nil]; omega)) only [go_sem, reduceCtorEq, Nat.reduceEqDiff, Nat.reduceAdd, Nat.reduceSub, Nat.reduceMul, Nat.reduceLeDiff, Int.reduceLT, Int.reduceLE, Int.reduceEq, ↓reduceIte, Int.reduceNeg, Int.reduceAdd, Int.reduceSub, Int.reduceMul, true_imp_iff, forall_const, Nat.mul_one, Int.reduceToNat, Nat.reducePow, Int.reducePow, Bool.true_and, Bool.false_and, Bool.and_false, hf, hf9, hlt']
      refine hMd.use ?_
      simp only [resAV]
      simp (disch := first | assumption | omega | (simp only [List.length_append, List.length_cons, List.length_nil]; omega)) only [go_sem, reduceCtorEq, Nat.reduceEqDiff, Nat.reduceAdd, Nat.reduceSub, Nat.reduceMul, Nat.reduceLeDiff, Int.reduceLT, Int.reduceLE, Int.reduceEq, ↓reduceIte, Int.reduceNeg, Int.reduceAdd, Int.reduceSub, Int.reduceMul, true_imp_iff, forall_const, Nat.mul_one, Int.reduceToNat, Nat.reducePow, Int.reducePow, Bool.true_and, Bool.false_and, Bool.and_false]
      exact retC_by (by repeat' (first | exact Drop.refl _ | with_reducible refine Drop.off ?_ (by assumption))) (.refl _) ⟨rfl, rfl⟩
  refine a11 (by simp) ?_
  simp (disch := first | assumption | omega | (simp only [List.length_append, List.length_cons, List.length_nil]; omega)) only [go_sem, reduceCtorEq, Nat.reduceEqDiff, Nat.reduceAdd, Nat.reduceSub, Nat.reduceMul, Nat.reduceLeDiff, Int.reduceLT, Int.reduceLE, Int.reduceEq, ↓reduceIte, Int.reduceNeg, Int.reduceAdd, Int.reduceSub, Int.reduceMul, true_imp_iff, forall_const, Nat.mul_one, Int.reduceToNat, Nat.reducePow, Int.reducePow, Bool.true_and, Bool.false_and, Bool.and_false, ←hF]
  refine hP.use ?_
  simp (disch := first | assumption | omega | (simp only [List.length_append, List.length_cons, List.length_nil]; omega)) only [go_sem, reduceCtorEq, Nat.reduceEqDiff, Nat.reduceAdd, Nat.reduceSub, Nat.reduceMul, Nat.reduceLeDiff, Int.reduceLT, Int.reduceLE, Int.reduceEq, ↓reduceIte, Int.reduceNeg, Int.reduceAdd, Int.reduceSub, Int.reduceMul, true_imp_iff, forall_const, Nat.mul_one, Int.reduceToNat, Nat.reducePow, Int.reducePow, Bool.true_and, Bool.false_and, Bool.and_false, ←hF]
  refine hC.use ?_
  by_cases hw : whole = []
  · subst hw
    rw [if_pos (.inl rfl)] at hR
    subst hR
    simp (disch := first | assumption | omega | (simp only [List.length_append, List.length_cons, List.length_nil]; omega)) only [go_sem, reduceCtorEq, Nat.reduceEqDiff, Nat.reduceAdd, Nat.reduceSub, Nat.reduceMul, Nat.reduceLeDiff, Int.reduceLT, Int.reduceLE, Int.reduceEq, ↓reduceIte, Int.reduceNeg, Int.reduceAdd, Int.reduceSub, Int.reduceMul, true_imp_iff, forall_const, Nat.mul_one, Int.reduceToNat, Nat.reducePow, Int.reducePow, Bool.true_and, Bool.false_and, Bool.and_false, ←hF]
    exact retC_by (by repeat' (first | exact Drop.refl _ | with_reducible refine Drop.off ?_ (by assumption))) (.refl _) ⟨rfl, rfl⟩
  cases dot with
  | false =>
    have hp := hnf rfl
    subst hp
    rw [if_neg (by rintro (h | ⟨h, _⟩) <;> contradiction)] at hR
    simp (disch := first | assumption | omega | (simp only [List.length_append, List.length_cons, List.length_nil]; omega)) only [go_sem, reduceCtorEq, Nat.reduceEqDiff, Nat.reduceAdd, Nat.reduceSub, Nat.reduceMul, Nat.reduceLeDiff, Int.reduceLT, Int.reduceLE, Int.reduceEq, ↓reduceIte, Int.reduceNeg, Int.reduceAdd, Int.reduceSub, Int.reduceMul, true_imp_iff, forall_const, Nat.mul_one, Int.reduceToNat, Nat.reducePow, Int.reducePow, Bool.true_and, Bool.false_and, Bool.and_false, hw, ←hF]
    refine fin _ (by simp) hR ?_
    simp (disch := first | assumption | omega | (simp only [List.length_append, List.length_cons, List.length_nil]; omega)) only [go_sem, reduceCtorEq, Nat.reduceEqDiff, Nat.reduceAdd, Nat.reduceSub, Nat.reduceMul, Nat.reduceLeDiff, Int.reduceLT, Int.reduceLE, Int.reduceEq, ↓reduceIte, Int.reduceNeg, Int.reduceAdd, Int.reduceSub, Int.reduceMul, true_imp_iff, forall_const, Nat.mul_one, Int.reduceToNat, Nat.reducePow, Int.reducePow, Bool.true_and, Bool.false_and, Bool.and_false]
  | true =>
    by_cases hp : part = []
    · subst hp
      rw [if_pos (.inr ⟨rfl, .inl rfl⟩)] at hR
      subst hR
      simp (disch := first | assumption | omega | (simp only [List.length_append, List.length_cons, List.length_nil]; omega)) only [go_sem, reduceCtorEq, Nat.reduceEqDiff, Nat.reduceAdd, Nat.reduceSub, Nat.reduceMul, Nat.reduceLeDiff, Int.reduceLT, Int.reduceLE, Int.reduceEq, ↓reduceIte, Int.reduceNeg, Int.reduceAdd, Int.reduceSub, Int.reduceMul, true_imp_iff, forall_const, Nat.mul_one, Int.reduceToNat, Nat.reducePow, Int.reducePow, Bool.true_and, Bool.false_and, Bool.and_false, hw, ←hF]
      exact retC_by (by repeat' (first | exact Drop.refl _ | with_reducible refine Drop.off ?_ (by assumption))) (.refl _) ⟨rfl, rfl⟩
    by_cases h4 : 4 < part.length
    · have h4' : (4 : Int) < part.length := by omega
      rw [if_pos (.inr ⟨rfl, .inr h4⟩)] at hR
      subst hR
      simp (disch := first | assumption | omega | (simp only [List.length_append, List.length_cons, List.length_nil]; omega)) only [go_sem, reduceCtorEq, Nat.reduceEqDiff, Nat.reduceAdd, Nat.reduceSub, Nat.reduceMul, Nat.reduceLeDiff, Int.reduceLT, Int.reduceLE, Int.reduceEq, ↓reduceIte, Int.reduceNeg, Int.reduceAdd, Int.reduceSub, Int.reduceMul, true_imp_iff, forall_const, Nat.mul_one, Int.reduceToNat, Nat.reducePow, Int.reducePow, Bool.true_and, Bool.false_and, Bool.and_false, hw, hp, h4', ←hF]
      exact retC_by (by repeat' (first | exact Drop.refl _ | with_reducible refine Drop.off ?_ (by assumption))) (.refl _) ⟨rfl, rfl⟩
    · have h4' : ¬ (4 : Int) < part.length := by omega
      rw [if_neg (by rintro (h | ⟨_, h | h⟩) <;> contradiction)] at hR
      simp (disch := first | assumption | omega | (simp only [List.length_append, List.length_cons, List.length_nil]; omega)) only [go_sem, reduceCtorEq, Nat.reduceEqDiff, Nat.reduceAdd, Nat.reduceSub, Nat.reduceMul, Nat.reduceLeDiff, Int.reduceLT, Int.reduceLE, Int.reduceEq, ↓reduceIte, Int.reduceNeg, Int.reduceAdd, Int.reduceSub, Int.reduceMul, true_imp_iff, forall_const, Nat.mul_one, Int.reduceToNat, Nat.reducePow, Int.reducePow, Bool.true_and, Bool.false_and, Bool.and_false, hw, hp, h4', ←hF]
      refine fin _ (by omega) hR ?_
      simp (disch := first | assumption | omega | (simp only [List.length_append, List.length_cons, List.length_nil]; omega)) only [go_sem, reduceCtorEq, Nat.reduceEqDiff, Nat.reduceAdd, Nat.reduceSub, Nat.reduceMul, Nat.reduceLeDiff, Int.reduceLT, Int.reduceLE, Int.reduceEq, ↓reduceIte, Int.reduceNeg, Int.reduceAdd, Int.reduceSub, Int.reduceMul, true_imp_iff, forall_const, Nat.mul_one, Int.reduceToNat, Nat.reducePow, Int.reducePow, Bool.true_and, Bool.false_and, Bool.and_false]

theorem parse_awake : parseD [45, 50, 46, 53] = some (-25000) := by decide +kernel
theorem round_awake : roundP (-25000) (10 ^ ((4 : Int) - 0).toNat) = some (-30000) := by decide +kernel
theorem text_awake : textD (-25000) = [45, 50, 46, 53] := by
  unfold textD placesP
  rw [show (-25000 : Int).natAbs / 10000 = 2 by decide, show (-25000 : Int).natAbs % 10000 = 5000 by decide, dd_small (by omega), dd_four (by omega)]
  decide +kernel
theorem dawake_ok {σ : ASt} (h : Tab σ) (hT : Tens σ) : ACalls Tryd.prog 10 [] σ fun v σ' => v = .bool true ∧ σ' = σ := by
  have hP := parse_ok [45, 50, 46, 53] (by decide)
  have hR := round_ok hT (a := -25000) (p := 0) (by decide) (by omega) (by omega)
  have hX := text_ok h (a := -25000) (by decide)
  rw [parse_awake] at hP
  rw [round_awake] at hR
  rw [text_awake] at hX
  have hD := div_awake
  simp only [resAV, Option.getD_some, Option.isSome_some] at hP hR hD
  refine a10 (by simp) ?_
  simp (disch := first | assumption | omega | (simp only [List.length_append, List.length_cons, List.length_nil]; omega)) only [go_sem, reduceCtorEq, Nat.reduceEqDiff, Nat.reduceAdd, Nat.reduceSub, Nat.reduceMul, Nat.reduceLeDiff, Int.reduceLT, Int.reduceLE, Int.reduceEq, ↓reduceIte, Int.reduceNeg, Int.reduceAdd, Int.reduceSub, Int.reduceMul, true_imp_iff, forall_const, Nat.mul_one, Int.reduceToNat, Nat.reducePow, Int.reducePow, Bool.true_and, Bool.false_and, Bool.and_false]
  refine hD.use ?_
  simp (disch := first | assumption | omega | (simp only [List.length_append, List.length_cons, List.length_nil]; omega)) only [go_sem, reduceCtorEq, Nat.reduceEqDiff, Nat.reduceAdd, Nat.reduceSub, Nat.reduceMul, Nat.reduceLeDiff, Int.reduceLT, Int.reduceLE, Int.reduceEq, ↓reduceIte, Int.reduceNeg, Int.reduceAdd, Int.reduceSub, Int.reduceMul, true_imp_iff, forall_const, Nat.mul_one, Int.reduceToNat, Nat.reducePow, Int.reducePow, Bool.true_and, Bool.false_and, Bool.and_false]
  refine hP.use ?_
  simp (disch := first | assumption | omega | (simp only [List.length_append, List.length_cons, List.length_nil]; omega)) only [go_sem, reduceCtorEq, Nat.reduceEqDiff, Nat.reduceAdd, Nat.reduceSub, Nat.reduceMul, Nat.reduceLeDiff, Int.reduceLT, Int.reduceLE, Int.reduceEq, ↓reduceIte, Int.reduceNeg, Int.reduceAdd, Int.reduceSub, Int.reduceMul, true_imp_iff, forall_const, Nat.mul_one, Int.reduceToNat, Nat.reducePow, Int.reducePow, Bool.true_and, Bool.false_and, Bool.and_false]
  refine hR.mono ?_
  rintro v σ' ⟨rfl, rfl⟩
  simp (disch := first | assumption | omega | (simp only [List.length_append, List.length_cons, List.length_nil]; omega)) only [go_sem, reduceCtorEq, Nat.reduceEqDiff, Nat.reduceAdd, Nat.reduceSub, Nat.reduceMul, Nat.reduceLeDiff, Int.reduceLT, Int.reduceLE, Int.reduceEq, ↓reduceIte, Int.reduceNeg, Int.reduceAdd, Int.reduceSub, Int.reduceMul, true_imp_iff, forall_const, Nat.mul_one, Int.reduceToNat, Nat.reducePow, Int.reducePow, Bool.true_and, Bool.false_and, Bool.and_false]
  refine hX.mono ?_
  rintro v σ' ⟨rfl, rfl⟩
  simp (disch := first | assumption | omega | (simp only [List.length_append, List.length_cons, List.length_nil]; omega)) only [go_sem, reduceCtorEq, Nat.reduceEqDiff, Nat.reduceAdd, Nat.reduceSub, Nat.reduceMul, Nat.reduceLeDiff, Int.reduceLT, Int.reduceLE, Int.reduceEq, ↓reduceIte, Int.reduceNeg, Int.reduceAdd, Int.reduceSub, Int.reduceMul, true_imp_iff, forall_const, Nat.mul_one, Int.reduceToNat, Nat.reducePow, Int.reducePow, Bool.true_and, Bool.false_and, Bool.and_false]
  exact retC_by (by repeat' (first | exact Drop.refl _ | with_reducible refine Drop.off ?_ (by assumption))) (.refl _) ⟨rfl, rfl⟩
theorem textD_len {a : Int} (ha : a.natAbs ≤ 999999999999999999) : (textD a).length ≤ 100 := by
  have h1 : (Lib.decDigits (a.natAbs / 10000)).length ≤ 15 := dd_len 14 _ (by omega)
  have h2 : (placesP (a.natAbs % 10000)).length ≤ 10 := by
    unfold placesP
    split
    · simp
    · rw [dd_four (by omega)]
      have := congrArg List.length (trim_back 48 (fourP (a.natAbs % 10000)))
      rw [List.length_append] at this
      have e4 : (fourP (a.natAbs % 10000)).length = 4 := rfl
      simp
      omega
  unfold textD
  simp only [List.length_append]
  split <;> simp <;> omega
theorem DeciBack_any {σ : ASt} (h : Tab σ) (hT : Tens σ) (a : Int) : ACalls Tryd.prog 3 [.int .i64 a] σ fun v σ' => v = .bool true ∧ σ' = σ := by
  have hA := dawake_ok h hT
  refine a3 (by simp) ?_
  simp (disch := first | assumption | omega | (simp only [List.length_append, List.length_cons, List.length_nil]; omega)) only [go_sem, reduceCtorEq, Nat.reduceEqDiff, Nat.reduceAdd, Nat.reduceSub, Nat.reduceMul, Nat.reduceLeDiff, Int.reduceLT, Int.reduceLE, Int.reduceEq, ↓reduceIte, Int.reduceNeg, Int.reduceAdd, Int.reduceSub, Int.reduceMul, true_imp_iff, forall_const, Nat.mul_one, Int.reduceToNat, Nat.reducePow, Int.reducePow, Bool.true_and, Bool.false_and, Bool.and_false]
  refine (good_ok a).use ?_
  by_cases hg : a.natAbs ≤ 999999999999999999
  · have hP := parse_ok (textD a) (by have := textD_len hg; omega)
    rw [parse_text_d hg] at hP
    simp only [resAV, Option.getD_some, Option.isSome_some] at hP
    simp (disch := first | assumption | omega | (simp only [List.length_append, List.length_cons, List.length_nil]; omega)) only [go_sem, reduceCtorEq, Nat.reduceEqDiff, Nat.reduceAdd, Nat.reduceSub, Nat.reduceMul, Nat.reduceLeDiff, Int.reduceLT, Int.reduceLE, Int.reduceEq, ↓reduceIte, Int.reduceNeg, Int.reduceAdd, Int.reduceSub, Int.reduceMul, true_imp_iff, forall_const, Nat.mul_one, Int.reduceToNat, Nat.reducePow, Int.reducePow, Bool.true_and, Bool.false_and, Bool.and_false, hg]
    refine (text_ok h hg).mono ?_
    rintro v σ' ⟨rfl, rfl⟩
    simp (disch := first | assumption | omega | (simp only [List.length_append, List.length_cons, List.length_nil]; omega)) only [go_sem, reduceCtorEq, Nat.reduceEqDiff, Nat.reduceAdd, Nat.reduceSub, Nat.reduceMul, Nat.reduceLeDiff, Int.reduceLT, Int.reduceLE, Int.reduceEq, ↓reduceIte, Int.reduceNeg, Int.reduceAdd, Int.reduceSub, Int.reduceMul, true_imp_iff, forall_const, Nat.mul_one, Int.reduceToNat, Nat.reducePow, Int.reducePow, Bool.true_and, Bool.false_and, Bool.and_false]
    refine hP.use ?_
    simp (disch := first | assumption | omega | (simp only [List.length_append, List.length_cons, List.length_nil]; omega)) only [go_sem, reduceCtorEq, Nat.reduceEqDiff, Nat.reduceAdd, Nat.reduceSub, Nat.reduceMul, Nat.reduceLeDiff, Int.reduceLT, Int.reduceLE, Int.reduceEq, ↓reduceIte, Int.reduceNeg, Int.reduceAdd, Int.reduceSub, Int.reduceMul, true_imp_iff, forall_const, Nat.mul_one, Int.reduceToNat, Nat.reducePow, Int.reducePow, Bool.true_and, Bool.false_and, Bool.and_false]
    refine hA.mono ?_
    rintro v σ' ⟨rfl, rfl⟩
    simp (disch := first | assumption | omega | (simp only [List.length_append, List.length_cons, List.length_nil]; omega)) only [go_sem, reduceCtorEq, Nat.reduceEqDiff, Nat.reduceAdd, Nat.reduceSub, Nat.reduceMul, Nat.reduceLeDiff, Int.reduceLT, Int.reduceLE, Int.reduceEq, ↓reduceIte, Int.reduceNeg, Int.reduceAdd, Int.reduceSub, Int.reduceMul, true_imp_iff, forall_const, Nat.mul_one, Int.reduceToNat, Nat.reducePow, Int.reducePow, Bool.true_and, Bool.false_and, Bool.and_false]
    exact retC_by (by repeat' (first | exact Drop.refl _ | with_reducible refine Drop.off ?_ (by assumption))) (.refl _) ⟨rfl, rfl⟩
  · simp (disch := first | assumption | omega | (simp only [List.length_append, List.length_cons, List.length_nil]; omega)) only [go_sem, reduceCtorEq, Nat.reduceEqDiff, Nat.reduceAdd, Nat.reduceSub, Nat.reduceMul, Nat.reduceLeDiff, Int.reduceLT, Int.reduceLE, Int.reduceEq, ↓reduceIte, Int.reduceNeg, Int.reduceAdd, Int.reduceSub, Int.reduceMul, true_imp_iff, forall_const, Nat.mul_one, Int.reduceToNat, Nat.reducePow, Int.reducePow, Bool.true_and, Bool.false_and, Bool.and_false, hg]
    refine hA.mono ?_
    rintro v σ' ⟨rfl, rfl⟩
    simp (disch := first | assumption | omega | (simp only [List.length_append, List.length_cons, List.length_nil]; omega)) only [go_sem, reduceCtorEq, Nat.reduceEqDiff, Nat.reduceAdd, Nat.reduceSub, Nat.reduceMul, Nat.reduceLeDiff, Int.reduceLT, Int.reduceLE, Int.reduceEq, ↓reduceIte, Int.reduceNeg, Int.reduceAdd, Int.reduceSub, Int.reduceMul, true_imp_iff, forall_const, Nat.mul_one, Int.reduceToNat, Nat.reducePow, Int.reducePow, Bool.true_and, Bool.false_and, Bool.and_false]
    exact retC_by (by repeat' (first | exact Drop.refl _ | with_reducible refine Drop.off ?_ (by assumption))) (.refl _) ⟨rfl, rfl⟩
end Go.A
