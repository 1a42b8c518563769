/- Parse, Text and Fixed of the document, Fixed and Int of deci, walked. · Int and Fixed of deci, Text and Fixed of the document; DeciTexts. · The document's Text; DeciTexts. -/
import Derived.Test.YtpedaofcndaooaaDoorHta
import Derived.Test.YtpedaofcndaooaaDoorCodeEg
namespace Go.A
open Go.Proofs
set_option maxRecDepth 100000
set_option linter.unusedSimpArgs false
set_option linter.unusedVariables false

theorem lcut_ok (s : List UInt8) (n : Nat) : Pure Tryd.prog 19 [.str s, .int .i64 n] (.str (s.take n)) := by
  intro σ
  refine a19 (by simp) ?_
  by_cases h : n < s.length
  · have h' : (n : Int) < s.length := by omega
    have g0 : (0 : Int) ≤ n := by omega
    have g1 : (n : Int) ≤ s.length := by omega
    simp (disch := first | assumption | omega | (simp only [List.length_append, List.length_cons, List.length_nil]; omega)) only [go_sem, reduceCtorEq, Nat.reduceEqDiff, Nat.reduceAdd, Nat.reduceSub, Nat.reduceMul, Nat.reduceLeDiff, Int.reduceLT, Int.reduceLE, Int.reduceEq, ↓reduceIte, Int.reduceNeg, Int.reduceAdd, Int.reduceSub, Int.reduceMul, true_imp_iff, forall_const, Nat.mul_one, Int.reduceToNat, Nat.reducePow, Int.reducePow, Bool.true_and, Bool.false_and, Bool.and_false, h', g0, g1]
    exact retC_by (by repeat' (first | exact Drop.refl _ | with_reducible refine Drop.off ?_ (by assumption))) (.refl _) ⟨rfl, rfl⟩
  · have h' : ¬ (n : Int) < s.length := by omega
    rw [List.take_of_length_le (by omega)]
    simp (disch := first | assumption | omega | (simp only [List.length_append, List.length_cons, List.length_nil]; omega)) only [go_sem, reduceCtorEq, Nat.reduceEqDiff, Nat.reduceAdd, Nat.reduceSub, Nat.reduceMul, Nat.reduceLeDiff, Int.reduceLT, Int.reduceLE, Int.reduceEq, ↓reduceIte, Int.reduceNeg, Int.reduceAdd, Int.reduceSub, Int.reduceMul, true_imp_iff, forall_const, Nat.mul_one, Int.reduceToNat, Nat.reducePow, Int.reducePow, Bool.true_and, Bool.false_and, Bool.and_false, h']
    exact retC_by (by repeat' (first | exact Drop.refl _ | with_reducible refine Drop.off ?_ (by assumption))) (.refl _) ⟨rfl, rfl⟩
theorem take_one {s : List UInt8} {i : Nat} {c : UInt8} (h : s[i]? = some c) : (s.take (i + 1)).drop i = [c] := by
  obtain ⟨hl, hc⟩ := List.getElem?_eq_some_iff.1 h
  rw [List.take_add_one, h, Option.toList_some, List.drop_append, List.drop_of_length_le (by rw [List.length_take]; omega), List.length_take, Nat.min_eq_left (by omega), Nat.sub_self]
  rfl
theorem allD_nil : AllD [] := fun _ h => by cases h
set_option maxHeartbeats 1000000 in
theorem rparse_ok (s : List UInt8) (hs : s.length ≤ 100000) : Pure Tryd.prog 20 [.str s] (resAV (parseD s)) := by
  intro σ
  obtain ⟨F, hF⟩ : ∃ F, F = ACode.wp Tryd.prog c20_50 := ⟨_, rfl⟩
  have fin : ∀ (a : AFr) (m : Bool) (b : List UInt8), b.length ≤ 100000 → (a 0 = .str b ∧ a 4 = .bool m) → F (RetQ [.t 2, .t 3] fun v σ' => v = resAV (rpEnd m (rp b 0 [] [])) ∧ σ' = σ) a σ := by
    intro a m b hb hf
    rw [hF]
    obtain ⟨G, hG⟩ : ∃ G, G = ACode.wp Tryd.prog c20_48 := ⟨_, rfl⟩
    have fin2 : ∀ (a : AFr) (w p : List UInt8) (d : Nat), w.length + p.length ≤ 100000 → d ≤ 100000 → (a 4 = .bool m ∧ a 5 = .str w ∧ a 6 = .str p ∧ a 7 = .int .i64 d) → (AllD w ∧ AllD p) → G (RetQ [.t 2, .t 3] fun v σ' => v = resAV (rpEnd m (some (w, p, d))) ∧ σ' = σ) a σ := by
      intro a w p d hwp hd hf ⟨hw, hp⟩
      rw [hG]
      simp only [rpEnd]
      by_cases h1 : 1 < d
      · have h1' : (1 : Int) < d := by omega
        rw [if_pos (.inl h1)]
        simp (disch := first | assumption | omega | (simp only [List.length_append, List.length_cons, List.length_nil]; omega)) only [go_sem, reduceCtorEq, Nat.reduceEqDiff, Nat.reduceAdd, Nat.reduceSub, Nat.reduceMul, Nat.reduceLeDiff, Int.reduceLT, Int.reduceLE, Int.reduceEq, ↓reduceIte, Int.reduceNeg, Int.reduceAdd, Int.reduceSub, Int.reduceMul, true_imp_iff, forall_const, Nat.mul_one, Int.reduceToNat, Nat.reducePow, Int.reducePow, Bool.true_and, Bool.false_and, Bool.and_false, hf, h1']
        exact retC_by (by repeat' (first | exact Drop.refl _ | with_reducible refine Drop.off ?_ (by assumption))) (.refl _) ⟨rfl, rfl⟩
      have h1' : ¬ (1 : Int) < d := by omega
      by_cases h2 : w = []
      · subst h2
        rw [if_pos (.inr (.inl rfl))]
        simp (disch := first | assumption | omega | (simp only [List.length_append, List.length_cons, List.length_nil]; omega)) only [go_sem, reduceCtorEq, Nat.reduceEqDiff, Nat.reduceAdd, Nat.reduceSub, Nat.reduceMul, Nat.reduceLeDiff, Int.reduceLT, Int.reduceLE, Int.reduceEq, ↓reduceIte, Int.reduceNeg, Int.reduceAdd, Int.reduceSub, Int.reduceMul, true_imp_iff, forall_const, Nat.mul_one, Int.reduceToNat, Nat.reducePow, Int.reducePow, Bool.true_and, Bool.false_and, Bool.and_false, hf, h1']
        exact retC_by (by repeat' (first | exact Drop.refl _ | with_reducible refine Drop.off ?_ (by assumption))) (.refl _) ⟨rfl, rfl⟩
      have h2' : ¬ (w.length : Int) = 0 := by
        have := List.length_pos_iff.2 h2
        omega
      by_cases h3 : d = 1 ∧ p = []
      · obtain ⟨rfl, rfl⟩ := h3
        rw [if_pos (.inr (.inr (.inl ⟨rfl, rfl⟩)))]
        have e1 : ((1 : Nat) : Int) = 1 := rfl
        simp (disch := first | assumption | omega | (simp only [List.length_append, List.length_cons, List.length_nil]; omega)) only [go_sem, reduceCtorEq, Nat.reduceEqDiff, Nat.reduceAdd, Nat.reduceSub, Nat.reduceMul, Nat.reduceLeDiff, Int.reduceLT, Int.reduceLE, Int.reduceEq, ↓reduceIte, Int.reduceNeg, Int.reduceAdd, Int.reduceSub, Int.reduceMul, true_imp_iff, forall_const, Nat.mul_one, Int.reduceToNat, Nat.reducePow, Int.reducePow, Bool.true_and, Bool.false_and, Bool.and_false, hf, h1', h2', e1]
        exact retC_by (by repeat' (first | exact Drop.refl _ | with_reducible refine Drop.off ?_ (by assumption))) (.refl _) ⟨rfl, rfl⟩
      have h3' : ¬ ((d : Int) = 1 ∧ (p.length : Int) = 0) := by
        rintro ⟨e1, e2⟩
        exact h3 ⟨by omega, List.eq_nil_of_length_eq_zero (by omega)⟩
      by_cases h4 : 4 < p.length
      · have h4' : (4 : Int) < p.length := by omega
        rw [if_pos (.inr (.inr (.inr h4)))]
        by_cases hd1 : (d : Int) = 1
        · have hp0 : ¬ (p.length : Int) = 0 := by omega
          simp (disch := first | assumption | omega | (simp only [List.length_append, List.length_cons, List.length_nil]; omega)) only [go_sem, reduceCtorEq, Nat.reduceEqDiff, Nat.reduceAdd, Nat.reduceSub, Nat.reduceMul, Nat.reduceLeDiff, Int.reduceLT, Int.reduceLE, Int.reduceEq, ↓reduceIte, Int.reduceNeg, Int.reduceAdd, Int.reduceSub, Int.reduceMul, true_imp_iff, forall_const, Nat.mul_one, Int.reduceToNat, Nat.reducePow, Int.reducePow, Bool.true_and, Bool.false_and, Bool.and_false, hf, h1', h2', hd1, hp0, h4']
          exact retC_by (by repeat' (first | exact Drop.refl _ | with_reducible refine Drop.off ?_ (by assumption))) (.refl _) ⟨rfl, rfl⟩
        · simp (disch := first | assumption | omega | (simp only [List.length_append, List.length_cons, List.length_nil]; omega)) only [go_sem, reduceCtorEq, Nat.reduceEqDiff, Nat.reduceAdd, Nat.reduceSub, Nat.reduceMul, Nat.reduceLeDiff, Int.reduceLT, Int.reduceLE, Int.reduceEq, ↓reduceIte, Int.reduceNeg, Int.reduceAdd, Int.reduceSub, Int.reduceMul, true_imp_iff, forall_const, Nat.mul_one, Int.reduceToNat, Nat.reducePow, Int.reducePow, Bool.true_and, Bool.false_and, Bool.and_false, hf, h1', h2', hd1, h4']
          exact retC_by (by repeat' (first | exact Drop.refl _ | with_reducible refine Drop.off ?_ (by assumption))) (.refl _) ⟨rfl, rfl⟩
      have h4' : ¬ (4 : Int) < p.length := by omega
      rw [if_neg (by rintro (h | h | h | h) <;> contradiction)]
      have hT := strip_ok (w ++ (p ++ List.replicate (4 - p.length) 48)) (by simp; omega)
      have hV := value_ok m (stripP (w ++ (p ++ List.replicate (4 - p.length) 48))) (allD_strip (allD_app hw (allD_app hp (allD_zeros _)))) (by
        have := (List.dropWhile_sublist (p := (· == 48)) (l := w ++ (p ++ List.replicate (4 - p.length) 48))).length_le
        unfold stripP
        simp at this ⊢
        omega)
      generalize valP m (stripP (w ++ (p ++ List.replicate (4 - p.length) 48))) = V at *
      simp only [resAV] at hV ⊢
      obtain ⟨H, hH⟩ : ∃ H, H = ACode.wp Tryd.prog c20_47 := ⟨_, rfl⟩
      have fin3 : ∀ (a : AFr), (a 4 = .bool m ∧ a 5 = .str w ∧ a 6 = .str p) → H (RetQ [.t 2, .t 3] fun v σ' => v = .tuple [.int .i64 (V.getD 0), .bool V.isSome] ∧ σ' = σ) a σ := by
        intro a hf
        rw [hH]
        simp (disch := first | assumption | omega | (simp only [List.length_append, List.length_cons, List.length_nil]; omega)) only [go_sem, reduceCtorEq, Nat.reduceEqDiff, Nat.reduceAdd, Nat.reduceSub, Nat.reduceMul, Nat.reduceLeDiff, Int.reduceLT, Int.reduceLE, Int.reduceEq, ↓reduceIte, Int.reduceNeg, Int.reduceAdd, Int.reduceSub, Int.reduceMul, true_imp_iff, forall_const, Nat.mul_one, Int.reduceToNat, Nat.reducePow, Int.reducePow, Bool.true_and, Bool.false_and, Bool.and_false, hf]
        refine wp_loop_on (fun (j : Nat) a1 s2 => p.length + j ≤ 4 ∧ (a1 4 = .bool m ∧ a1 5 = .str w ∧ a1 6 = .str (p ++ List.replicate j 48)) ∧ s2 = σ) (fun j => 4 - j) 0 ⟨by omega, ?_, rfl⟩ ?_
        · simp (disch := first | assumption | omega | (simp only [List.length_append, List.length_cons, List.length_nil]; omega)) only [go_sem, reduceCtorEq, Nat.reduceEqDiff, Nat.reduceAdd, Nat.reduceSub, Nat.reduceMul, Nat.reduceLeDiff, Int.reduceLT, Int.reduceLE, Int.reduceEq, ↓reduceIte, Int.reduceNeg, Int.reduceAdd, Int.reduceSub, Int.reduceMul, true_imp_iff, forall_const, Nat.mul_one, Int.reduceToNat, Nat.reducePow, Int.reducePow, Bool.true_and, Bool.false_and, Bool.and_false, hf]
          simp
        rintro j a1 s2 ⟨hj, hf, rfl⟩
        obtain ⟨X, hX⟩ : ∃ X, p ++ List.replicate j 48 = X := ⟨_, rfl⟩
        have hXl : X.length = p.length + j := by rw [← hX]; simp
        rw [hX] at hf
        by_cases hlt : p.length + j < 4
        · have g3 : (X.length : Int) < 4 := by omega
          have e1 : binS .add X [48] = some (.str (p ++ List.replicate (j + 1) 48)) := by
            rw [binS_add (by simp; omega), List.replicate_succ', ← List.append_assoc, hX]
          simp (disch := first | assumption | omega | (simp only [List.length_append, List.length_cons, List.length_nil]; omega)) only [go_sem, reduceCtorEq, Nat.reduceEqDiff, Nat.reduceAdd, Nat.reduceSub, Nat.reduceMul, Nat.reduceLeDiff, Int.reduceLT, Int.reduceLE, Int.reduceEq, ↓reduceIte, Int.reduceNeg, Int.reduceAdd, Int.reduceSub, Int.reduceMul, true_imp_iff, forall_const, Nat.mul_one, Int.reduceToNat, Nat.reducePow, Int.reducePow, Bool.true_and, Bool.false_and, Bool.and_false, hf, g3, e1]
          exact ⟨j + 1, by omega, by omega, rfl⟩
        · have g3 : ¬ (X.length : Int) < 4 := by omega
          obtain rfl : j = 4 - p.length := by omega
          rw [hX] at hT hV
          have e1 : binS .add w X = some (.str (w ++ X)) := binS_add (by omega)
          simp (disch := first | assumption | omega | (simp only [List.length_append, List.length_cons, List.length_nil]; omega)) only [go_sem, reduceCtorEq, Nat.reduceEqDiff, Nat.reduceAdd, Nat.reduceSub, Nat.reduceMul, Nat.reduceLeDiff, Int.reduceLT, Int.reduceLE, Int.reduceEq, ↓reduceIte, Int.reduceNeg, Int.reduceAdd, Int.reduceSub, Int.reduceMul, true_imp_iff, forall_const, Nat.mul_one, Int.reduceToNat, Nat.reducePow, Int.reducePow, Bool.true_and, Bool.false_and, Bool.and_false, hf, g3, e1]
          refine hT.use ?_
          simp (disch := first | assumption | omega | (simp only [List.length_append, List.length_cons, List.length_nil]; omega)) only [go_sem, reduceCtorEq, Nat.reduceEqDiff, Nat.reduceAdd, Nat.reduceSub, Nat.reduceMul, Nat.reduceLeDiff, Int.reduceLT, Int.reduceLE, Int.reduceEq, ↓reduceIte, Int.reduceNeg, Int.reduceAdd, Int.reduceSub, Int.reduceMul, true_imp_iff, forall_const, Nat.mul_one, Int.reduceToNat, Nat.reducePow, Int.reducePow, Bool.true_and, Bool.false_and, Bool.and_false, hf]
          refine hV.use ?_
          simp (disch := first | assumption | omega | (simp only [List.length_append, List.length_cons, List.length_nil]; omega)) only [go_sem, reduceCtorEq, Nat.reduceEqDiff, Nat.reduceAdd, Nat.reduceSub, Nat.reduceMul, Nat.reduceLeDiff, Int.reduceLT, Int.reduceLE, Int.reduceEq, ↓reduceIte, Int.reduceNeg, Int.reduceAdd, Int.reduceSub, Int.reduceMul, true_imp_iff, forall_const, Nat.mul_one, Int.reduceToNat, Nat.reducePow, Int.reducePow, Bool.true_and, Bool.false_and, Bool.and_false]
          exact retC_by (by repeat' (first | exact Drop.refl _ | with_reducible refine Drop.off ?_ (by assumption))) (.refl _) ⟨rfl, rfl⟩
      by_cases hd1 : (d : Int) = 1
      · have hp0 : ¬ (p.length : Int) = 0 := fun h => h3' ⟨hd1, h⟩
        simp (disch := first | assumption | omega | (simp only [List.length_append, List.length_cons, List.length_nil]; omega)) only [go_sem, reduceCtorEq, Nat.reduceEqDiff, Nat.reduceAdd, Nat.reduceSub, Nat.reduceMul, Nat.reduceLeDiff, Int.reduceLT, Int.reduceLE, Int.reduceEq, ↓reduceIte, Int.reduceNeg, Int.reduceAdd, Int.reduceSub, Int.reduceMul, true_imp_iff, forall_const, Nat.mul_one, Int.reduceToNat, Nat.reducePow, Int.reducePow, Bool.true_and, Bool.false_and, Bool.and_false, hf, h1', h2', hd1, hp0, h4', ←hH]
        refine fin3 _ ?_
        simp (disch := first | assumption | omega | (simp only [List.length_append, List.length_cons, List.length_nil]; omega)) only [go_sem, reduceCtorEq, Nat.reduceEqDiff, Nat.reduceAdd, Nat.reduceSub, Nat.reduceMul, Nat.reduceLeDiff, Int.reduceLT, Int.reduceLE, Int.reduceEq, ↓reduceIte, Int.reduceNeg, Int.reduceAdd, Int.reduceSub, Int.reduceMul, true_imp_iff, forall_const, Nat.mul_one, Int.reduceToNat, Nat.reducePow, Int.reducePow, Bool.true_and, Bool.false_and, Bool.and_false, hf]
      · simp (disch := first | assumption | omega | (simp only [List.length_append, List.length_cons, List.length_nil]; omega)) only [go_sem, reduceCtorEq, Nat.reduceEqDiff, Nat.reduceAdd, Nat.reduceSub, Nat.reduceMul, Nat.reduceLeDiff, Int.reduceLT, Int.reduceLE, Int.reduceEq, ↓reduceIte, Int.reduceNeg, Int.reduceAdd, Int.reduceSub, Int.reduceMul, true_imp_iff, forall_const, Nat.mul_one, Int.reduceToNat, Nat.reducePow, Int.reducePow, Bool.true_and, Bool.false_and, Bool.and_false, hf, h1', h2', hd1, h4', ←hH]
        refine fin3 _ ?_
        simp (disch := first | assumption | omega | (simp only [List.length_append, List.length_cons, List.length_nil]; omega)) only [go_sem, reduceCtorEq, Nat.reduceEqDiff, Nat.reduceAdd, Nat.reduceSub, Nat.reduceMul, Nat.reduceLeDiff, Int.reduceLT, Int.reduceLE, Int.reduceEq, ↓reduceIte, Int.reduceNeg, Int.reduceAdd, Int.reduceSub, Int.reduceMul, true_imp_iff, forall_const, Nat.mul_one, Int.reduceToNat, Nat.reducePow, Int.reducePow, Bool.true_and, Bool.false_and, Bool.and_false, hf]
    simp (disch := first | assumption | omega | (simp only [List.length_append, List.length_cons, List.length_nil]; omega)) only [go_sem, reduceCtorEq, Nat.reduceEqDiff, Nat.reduceAdd, Nat.reduceSub, Nat.reduceMul, Nat.reduceLeDiff, Int.reduceLT, Int.reduceLE, Int.reduceEq, ↓reduceIte, Int.reduceNeg, Int.reduceAdd, Int.reduceSub, Int.reduceMul, true_imp_iff, forall_const, Nat.mul_one, Int.reduceToNat, Nat.reducePow, Int.reducePow, Bool.true_and, Bool.false_and, Bool.and_false, ←hG]
    refine wp_loop_on (fun (i : Nat) a1 s2 => i ≤ b.length ∧ (∃ (w p : List UInt8) (d : Nat), rp b 0 [] [] = rp (b.drop i) d w p ∧ w.length + p.length ≤ i ∧ d ≤ i ∧ (AllD w ∧ AllD p) ∧ (a1 5 = .str w ∧ a1 6 = .str p ∧ a1 7 = .int .i64 d)) ∧ (a1 0 = .str b ∧ a1 4 = .bool m ∧ a1 8 = .int .i64 i) ∧ s2 = σ) (fun i => b.length - i) 0 ⟨Nat.zero_le _, ⟨[], [], 0, rfl, by simp, by omega, ⟨allD_nil, allD_nil⟩, ?_⟩, ?_, rfl⟩ ?_
    · simp (disch := first | assumption | omega | (simp only [List.length_append, List.length_cons, List.length_nil]; omega)) only [go_sem, reduceCtorEq, Nat.reduceEqDiff, Nat.reduceAdd, Nat.reduceSub, Nat.reduceMul, Nat.reduceLeDiff, Int.reduceLT, Int.reduceLE, Int.reduceEq, ↓reduceIte, Int.reduceNeg, Int.reduceAdd, Int.reduceSub, Int.reduceMul, true_imp_iff, forall_const, Nat.mul_one, Int.reduceToNat, Nat.reducePow, Int.reducePow, Bool.true_and, Bool.false_and, Bool.and_false, hf]
    · simp (disch := first | assumption | omega | (simp only [List.length_append, List.length_cons, List.length_nil]; omega)) only [go_sem, reduceCtorEq, Nat.reduceEqDiff, Nat.reduceAdd, Nat.reduceSub, Nat.reduceMul, Nat.reduceLeDiff, Int.reduceLT, Int.reduceLE, Int.reduceEq, ↓reduceIte, Int.reduceNeg, Int.reduceAdd, Int.reduceSub, Int.reduceMul, true_imp_iff, forall_const, Nat.mul_one, Int.reduceToNat, Nat.reducePow, Int.reducePow, Bool.true_and, Bool.false_and, Bool.and_false, hf]
    rintro i a1 s2 ⟨hi, ⟨w, p, d, hr, hl, hdi, ⟨hw, hp⟩, hg⟩, hf, rfl⟩
    by_cases hlt : i < b.length
    · have hidx : b[i]? = some (b[i]'hlt) := List.getElem?_eq_getElem hlt
      rw [List.drop_eq_getElem_cons hlt] at hr
      obtain ⟨c, hc⟩ : ∃ c, b[i]'hlt = c := ⟨_, rfl⟩
      rw [hc] at hidx hr
      have ht1 := take_one hidx
      have hn1 : ((i : Int) + 1).toNat = i + 1 := by omega
      have hlt' : (i : Int) < b.length := by omega
      have hlt2 : (i : Int) + 1 ≤ b.length := by omega
      rw [rp] at hr
      by_cases h46 : c = 46
      · have h46' : (c.toNat : Int) = 46 := by rw [h46]; rfl
        rw [if_pos h46] at hr
        simp (disch := first | assumption | omega | (simp only [List.length_append, List.length_cons, List.length_nil]; omega)) only [go_sem, reduceCtorEq, Nat.reduceEqDiff, Nat.reduceAdd, Nat.reduceSub, Nat.reduceMul, Nat.reduceLeDiff, Int.reduceLT, Int.reduceLE, Int.reduceEq, ↓reduceIte, Int.reduceNeg, Int.reduceAdd, Int.reduceSub, Int.reduceMul, true_imp_iff, forall_const, Nat.mul_one, Int.reduceToNat, Nat.reducePow, Int.reducePow, Bool.true_and, Bool.false_and, Bool.and_false, hf, hg, hlt', hidx, h46']
        exact ⟨i + 1, by omega, by omega, ⟨w, p, d + 1, hr, by omega, by omega, ⟨hw, hp⟩, rfl, rfl, rfl⟩, rfl⟩
      have h46' : ¬ (c.toNat : Int) = 46 := fun h => h46 (UInt8.toNat_inj.1 (by have e : (46 : UInt8).toNat = 46 := rfl; omega))
      rw [if_neg h46] at hr
      by_cases h1 : c.toNat < 48
      · have h1' : (c.toNat : Int) < 48 := by omega
        rw [if_pos (.inl h1)] at hr
        rw [hr]
        simp (disch := first | assumption | omega | (simp only [List.length_append, List.length_cons, List.length_nil]; omega)) only [go_sem, reduceCtorEq, Nat.reduceEqDiff, Nat.reduceAdd, Nat.reduceSub, Nat.reduceMul, Nat.reduceLeDiff, Int.reduceLT, Int.reduceLE, Int.reduceEq, ↓reduceIte, Int.reduceNeg, Int.reduceAdd, Int.reduceSub, Int.reduceMul, true_imp_iff, forall_const, Nat.mul_one, Int.reduceToNat, Nat.reducePow, Int.reducePow, Bool.true_and, Bool.false_and, Bool.and_false, hf, hg, hlt', hidx, h46', h1']
        exact retC_by (by repeat' (first | exact Drop.refl _ | with_reducible refine Drop.off ?_ (by assumption))) (.refl _) ⟨rfl, rfl⟩
      have h1' : ¬ (c.toNat : Int) < 48 := by omega
      by_cases h2 : 57 < c.toNat
      · have h2' : (57 : Int) < c.toNat := by omega
        rw [if_pos (.inr h2)] at hr
        rw [hr]
        simp (disch := first | assumption | omega | (simp only [List.length_append, List.length_cons, List.length_nil]; omega)) only [go_sem, reduceCtorEq, Nat.reduceEqDiff, Nat.reduceAdd, Nat.reduceSub, Nat.reduceMul, Nat.reduceLeDiff, Int.reduceLT, Int.reduceLE, Int.reduceEq, ↓reduceIte, Int.reduceNeg, Int.reduceAdd, Int.reduceSub, Int.reduceMul, true_imp_iff, forall_const, Nat.mul_one, Int.reduceToNat, Nat.reducePow, Int.reducePow, Bool.true_and, Bool.false_and, Bool.and_false, hf, hg, hlt', hidx, h46', h1', h2']
        exact retC_by (by repeat' (first | exact Drop.refl _ | with_reducible refine Drop.off ?_ (by assumption))) (.refl _) ⟨rfl, rfl⟩
      have h2' : ¬ (57 : Int) < c.toNat := by omega
      rw [if_neg (by omega)] at hr
      have hcD : AllD [c] := fun x hx => by rw [List.mem_singleton.1 hx]; omega
      by_cases hd0 : d = 0
      · have hd0' : (d : Int) = 0 := by omega
        rw [if_pos hd0] at hr
        have e1 : binS .add w [c] = some (.str (w ++ [c])) := binS_add (by simp; omega)
        simp (disch := first | assumption | omega | (simp only [List.length_append, List.length_cons, List.length_nil]; omega)) only [go_sem, reduceCtorEq, Nat.reduceEqDiff, Nat.reduceAdd, Nat.reduceSub, Nat.reduceMul, Nat.reduceLeDiff, Int.reduceLT, Int.reduceLE, Int.reduceEq, ↓reduceIte, Int.reduceNeg, Int.reduceAdd, Int.reduceSub, Int.reduceMul, true_imp_iff, forall_const, Nat.mul_one, Int.reduceToNat, Nat.reducePow, Int.reducePow, Bool.true_and, Bool.false_and, Bool.and_false, hf, hg, hlt', hlt2, hidx, h46', h1', h2', hd0', hn1, ht1, e1]
        exact ⟨i + 1, by omega, by omega, ⟨w ++ [c], p, d, hr, by simp; omega, by omega, ⟨allD_app hw hcD, hp⟩, by rw [hd0']; exact ⟨rfl, rfl, rfl⟩⟩, rfl⟩
      · have hd0' : ¬ (d : Int) = 0 := by omega
        rw [if_neg hd0] at hr
        have e1 : binS .add p [c] = some (.str (p ++ [c])) := binS_add (by simp; omega)
        simp (disch := first | assumption | omega | (simp only [List.length_append, List.length_cons, List.length_nil]; omega)) only [go_sem, reduceCtorEq, Nat.reduceEqDiff, Nat.reduceAdd, Nat.reduceSub, Nat.reduceMul, Nat.reduceLeDiff, Int.reduceLT, Int.reduceLE, Int.reduceEq, ↓reduceIte, Int.reduceNeg, Int.reduceAdd, Int.reduceSub, Int.reduceMul, true_imp_iff, forall_const, Nat.mul_one, Int.reduceToNat, Nat.reducePow, Int.reducePow, Bool.true_and, Bool.false_and, Bool.and_false, hf, hg, hlt', hlt2, hidx, h46', h1', h2', hd0', hn1, ht1, e1]
        exact ⟨i + 1, by omega, by omega, ⟨w, p ++ [c], d, hr, by simp; omega, by omega, ⟨hw, allD_app hp hcD⟩, rfl, rfl, rfl⟩, rfl⟩
    · have hlt' : ¬ (i : Int) < b.length := by omega
      rw [List.drop_eq_nil_of_le (by omega), rp] at hr
      rw [hr]
      simp (disch := first | assumption | omega | (simp only [List.length_append, List.length_cons, List.length_nil]; omega)) only [go_sem, reduceCtorEq, Nat.reduceEqDiff, Nat.reduceAdd, Nat.reduceSub, Nat.reduceMul, Nat.reduceLeDiff, Int.reduceLT, Int.reduceLE, Int.reduceEq, ↓reduceIte, Int.reduceNeg, Int.reduceAdd, Int.reduceSub, Int.reduceMul, true_imp_iff, forall_const, Nat.mul_one, Int.reduceToNat, Nat.reducePow, Int.reducePow, Bool.true_and, Bool.false_and, Bool.and_false, hf, hlt', ←hG]
      refine fin2 _ w p d (by omega) (by omega) ?_ ⟨hw, hp⟩
      simp (disch := first | assumption | omega | (simp only [List.length_append, List.length_cons, List.length_nil]; omega)) only [go_sem, reduceCtorEq, Nat.reduceEqDiff, Nat.reduceAdd, Nat.reduceSub, Nat.reduceMul, Nat.reduceLeDiff, Int.reduceLT, Int.reduceLE, Int.reduceEq, ↓reduceIte, Int.reduceNeg, Int.reduceAdd, Int.reduceSub, Int.reduceMul, true_imp_iff, forall_const, Nat.mul_one, Int.reduceToNat, Nat.reducePow, Int.reducePow, Bool.true_and, Bool.false_and, Bool.and_false, hf, hg]
  unfold parseD
  dsimp only
  rw [← rp_parse]
  refine a20 (by simp) ?_
  cases s with
  | nil =>
    simp only [List.head?_nil, reduceCtorEq, if_false, decide_false]
    simp (disch := first | assumption | omega | (simp only [List.length_append, List.length_cons, List.length_nil]; omega)) only [go_sem, reduceCtorEq, Nat.reduceEqDiff, Nat.reduceAdd, Nat.reduceSub, Nat.reduceMul, Nat.reduceLeDiff, Int.reduceLT, Int.reduceLE, Int.reduceEq, ↓reduceIte, Int.reduceNeg, Int.reduceAdd, Int.reduceSub, Int.reduceMul, true_imp_iff, forall_const, Nat.mul_one, Int.reduceToNat, Nat.reducePow, Int.reducePow, Bool.true_and, Bool.false_and, Bool.and_false, ←hF]
    refine fin _ false [] (by simp) ?_
    simp (disch := first | assumption | omega | (simp only [List.length_append, List.length_cons, List.length_nil]; omega)) only [go_sem, reduceCtorEq, Nat.reduceEqDiff, Nat.reduceAdd, Nat.reduceSub, Nat.reduceMul, Nat.reduceLeDiff, Int.reduceLT, Int.reduceLE, Int.reduceEq, ↓reduceIte, Int.reduceNeg, Int.reduceAdd, Int.reduceSub, Int.reduceMul, true_imp_iff, forall_const, Nat.mul_one, Int.reduceToNat, Nat.reducePow, Int.reducePow, Bool.true_and, Bool.false_and, Bool.and_false]
  | cons c l =>
    obtain ⟨t, ht⟩ : ∃ t, t = c :: l := ⟨_, rfl⟩
    have hidx : t[0]? = some c := by rw [ht]; rfl
    have hd1 : t.drop 1 = l := by rw [ht]; rfl
    have hml : t.length = l.length + 1 := by rw [ht]; rfl
    have hh : t.head? = some c := by rw [ht]; rfl
    rw [← ht] at hs ⊢
    rw [hh]
    have g0 : (0 : Int) < t.length := by omega
    have g1 : (1 : Int) ≤ t.length := by omega
    by_cases h45 : c = 45
    · have h45' : (c.toNat : Int) = 45 := by rw [h45]; rfl
      rw [if_pos (by rw [h45]), decide_eq_true (by rw [h45]), hd1]
      simp (disch := first | assumption | omega | (simp only [List.length_append, List.length_cons, List.length_nil]; omega)) only [go_sem, reduceCtorEq, Nat.reduceEqDiff, Nat.reduceAdd, Nat.reduceSub, Nat.reduceMul, Nat.reduceLeDiff, Int.reduceLT, Int.reduceLE, Int.reduceEq, ↓reduceIte, Int.reduceNeg, Int.reduceAdd, Int.reduceSub, Int.reduceMul, true_imp_iff, forall_const, Nat.mul_one, Int.reduceToNat, Nat.reducePow, Int.reducePow, Bool.true_and, Bool.false_and, Bool.and_false, hidx, g0, g1, h45', hd1, List.take_length, ←hF]
      refine fin _ true l (by omega) ?_
      simp (disch := first | assumption | omega | (simp only [List.length_append, List.length_cons, List.length_nil]; omega)) only [go_sem, reduceCtorEq, Nat.reduceEqDiff, Nat.reduceAdd, Nat.reduceSub, Nat.reduceMul, Nat.reduceLeDiff, Int.reduceLT, Int.reduceLE, Int.reduceEq, ↓reduceIte, Int.reduceNeg, Int.reduceAdd, Int.reduceSub, Int.reduceMul, true_imp_iff, forall_const, Nat.mul_one, Int.reduceToNat, Nat.reducePow, Int.reducePow, Bool.true_and, Bool.false_and, Bool.and_false]
    · have h45' : ¬ (c.toNat : Int) = 45 := fun h => h45 (UInt8.toNat_inj.1 (by have e : (45 : UInt8).toNat = 45 := rfl; omega))
      have hne : ¬ (some c = some (45 : UInt8)) := by simpa using h45
      rw [if_neg hne, decide_eq_false hne]
      simp (disch := first | assumption | omega | (simp only [List.length_append, List.length_cons, List.length_nil]; omega)) only [go_sem, reduceCtorEq, Nat.reduceEqDiff, Nat.reduceAdd, Nat.reduceSub, Nat.reduceMul, Nat.reduceLeDiff, Int.reduceLT, Int.reduceLE, Int.reduceEq, ↓reduceIte, Int.reduceNeg, Int.reduceAdd, Int.reduceSub, Int.reduceMul, true_imp_iff, forall_const, Nat.mul_one, Int.reduceToNat, Nat.reducePow, Int.reducePow, Bool.true_and, Bool.false_and, Bool.and_false, hidx, g0, h45', ←hF]
      refine fin _ false t hs ?_
      simp (disch := first | assumption | omega | (simp only [List.length_append, List.length_cons, List.length_nil]; omega)) only [go_sem, reduceCtorEq, Nat.reduceEqDiff, Nat.reduceAdd, Nat.reduceSub, Nat.reduceMul, Nat.reduceLeDiff, Int.reduceLT, Int.reduceLE, Int.reduceEq, ↓reduceIte, Int.reduceNeg, Int.reduceAdd, Int.reduceSub, Int.reduceMul, true_imp_iff, forall_const, Nat.mul_one, Int.reduceToNat, Nat.reducePow, Int.reducePow, Bool.true_and, Bool.false_and, Bool.and_false]
end Go.A
namespace Go.A
open Go.Proofs
set_option maxRecDepth 100000
set_option linter.unusedSimpArgs false
set_option linter.unusedVariables false

/-- A whole number. -/
def intP (n : Int) : Option Int := if n.natAbs ≤ 99999999999999 then some (n * 10000) else none
theorem made_hi (m : Bool) {hi lo : Int} (h : 0 < hi) : Pure Tryd.prog 38 [.bool m, .int .u64 hi, .int .u64 lo] (resAV none) := by
  intro σ
  refine a38 (by simp) ?_
  simp (disch := first | assumption | omega | (simp only [List.length_append, List.length_cons, List.length_nil]; omega)) only [go_sem, reduceCtorEq, Nat.reduceEqDiff, Nat.reduceAdd, Nat.reduceSub, Nat.reduceMul, Nat.reduceLeDiff, Int.reduceLT, Int.reduceLE, Int.reduceEq, ↓reduceIte, Int.reduceNeg, Int.reduceAdd, Int.reduceSub, Int.reduceMul, true_imp_iff, forall_const, Nat.mul_one, Int.reduceToNat, Nat.reducePow, Int.reducePow, Bool.true_and, Bool.false_and, Bool.and_false, h]
  exact retC_by (by repeat' (first | exact Drop.refl _ | with_reducible refine Drop.off ?_ (by assumption))) (.refl _) ⟨rfl, rfl⟩
theorem int_ok (n : Int) (h0 : -9223372036854775808 ≤ n) (h1 : n ≤ 9223372036854775807) : Pure Tryd.prog 21 [.int .i64 n] (resAV (intP n)) := by
  intro σ
  have hM := mul64_ok n.natAbs 10000 (by omega) (by omega)
  have hD : Pure Tryd.prog 38 [.bool (decide (n < 0)), .int .u64 ((n.natAbs * 10000 / 18446744073709551616 : Nat) : Int), .int .u64 ((n.natAbs * 10000 % 18446744073709551616 : Nat) : Int)] (resAV (intP n)) := by
    unfold intP
    by_cases hb : n.natAbs * 10000 / 18446744073709551616 = 0
    · rw [hb]
      have := made_ok (decide (n < 0)) (n.natAbs * 10000 % 18446744073709551616) (by omega)
      have he : madeP (decide (n < 0)) (n.natAbs * 10000 % 18446744073709551616) = if n.natAbs ≤ 99999999999999 then some (n * 10000) else none := by
        unfold madeP
        by_cases hs : n.natAbs ≤ 99999999999999
        · rw [if_pos hs, if_pos (by omega)]
          congr 1
          simp only [decide_eq_true_eq]
          split <;> omega
        · rw [if_neg hs, if_neg (by omega)]
      rw [he] at this
      exact this
    · rw [if_neg (by omega)]
      exact made_hi _ (by omega)
  generalize intP n = o at *
  simp only [resAV] at hD ⊢
  obtain ⟨H, hH⟩ : ∃ H : Int, ((n.natAbs * 10000 / 18446744073709551616 : Nat) : Int) = H := ⟨_, rfl⟩
  obtain ⟨L, hL⟩ : ∃ L : Int, ((n.natAbs * 10000 % 18446744073709551616 : Nat) : Int) = L := ⟨_, rfl⟩
  rw [hH, hL] at hM hD
  refine a21 (by simp) ?_
  by_cases hn : n < 0
  · have e1 : IntKind.u64.wrap (0 - IntKind.u64.wrap n) = ((n.natAbs : Nat) : Int) := by rw [IntKind.wrap_u64, IntKind.wrap_u64]; omega
    simp (disch := first | assumption | omega | (simp only [List.length_append, List.length_cons, List.length_nil]; omega)) only [go_sem, reduceCtorEq, Nat.reduceEqDiff, Nat.reduceAdd, Nat.reduceSub, Nat.reduceMul, Nat.reduceLeDiff, Int.reduceLT, Int.reduceLE, Int.reduceEq, ↓reduceIte, Int.reduceNeg, Int.reduceAdd, Int.reduceSub, Int.reduceMul, true_imp_iff, forall_const, Nat.mul_one, Int.reduceToNat, Nat.reducePow, Int.reducePow, Bool.true_and, Bool.false_and, Bool.and_false, hn, e1]
    refine hM.use ?_
    rw [decide_eq_true hn] at hD
    simp (disch := first | assumption | omega | (simp only [List.length_append, List.length_cons, List.length_nil]; omega)) only [go_sem, reduceCtorEq, Nat.reduceEqDiff, Nat.reduceAdd, Nat.reduceSub, Nat.reduceMul, Nat.reduceLeDiff, Int.reduceLT, Int.reduceLE, Int.reduceEq, ↓reduceIte, Int.reduceNeg, Int.reduceAdd, Int.reduceSub, Int.reduceMul, true_imp_iff, forall_const, Nat.mul_one, Int.reduceToNat, Nat.reducePow, Int.reducePow, Bool.true_and, Bool.false_and, Bool.and_false, hn]
    refine hD.use ?_
    simp (disch := first | assumption | omega | (simp only [List.length_append, List.length_cons, List.length_nil]; omega)) only [go_sem, reduceCtorEq, Nat.reduceEqDiff, Nat.reduceAdd, Nat.reduceSub, Nat.reduceMul, Nat.reduceLeDiff, Int.reduceLT, Int.reduceLE, Int.reduceEq, ↓reduceIte, Int.reduceNeg, Int.reduceAdd, Int.reduceSub, Int.reduceMul, true_imp_iff, forall_const, Nat.mul_one, Int.reduceToNat, Nat.reducePow, Int.reducePow, Bool.true_and, Bool.false_and, Bool.and_false]
    exact retC_by (by repeat' (first | exact Drop.refl _ | with_reducible refine Drop.off ?_ (by assumption))) (.refl _) ⟨rfl, rfl⟩
  · have e1 : IntKind.u64.wrap n = ((n.natAbs : Nat) : Int) := by rw [IntKind.wrap_u64]; omega
    simp (disch := first | assumption | omega | (simp only [List.length_append, List.length_cons, List.length_nil]; omega)) only [go_sem, reduceCtorEq, Nat.reduceEqDiff, Nat.reduceAdd, Nat.reduceSub, Nat.reduceMul, Nat.reduceLeDiff, Int.reduceLT, Int.reduceLE, Int.reduceEq, ↓reduceIte, Int.reduceNeg, Int.reduceAdd, Int.reduceSub, Int.reduceMul, true_imp_iff, forall_const, Nat.mul_one, Int.reduceToNat, Nat.reducePow, Int.reducePow, Bool.true_and, Bool.false_and, Bool.and_false, hn, e1]
    refine hM.use ?_
    rw [decide_eq_false hn] at hD
    simp (disch := first | assumption | omega | (simp only [List.length_append, List.length_cons, List.length_nil]; omega)) only [go_sem, reduceCtorEq, Nat.reduceEqDiff, Nat.reduceAdd, Nat.reduceSub, Nat.reduceMul, Nat.reduceLeDiff, Int.reduceLT, Int.reduceLE, Int.reduceEq, ↓reduceIte, Int.reduceNeg, Int.reduceAdd, Int.reduceSub, Int.reduceMul, true_imp_iff, forall_const, Nat.mul_one, Int.reduceToNat, Nat.reducePow, Int.reducePow, Bool.true_and, Bool.false_and, Bool.and_false, hn]
    refine hD.use ?_
    simp (disch := first | assumption | omega | (simp only [List.length_append, List.length_cons, List.length_nil]; omega)) only [go_sem, reduceCtorEq, Nat.reduceEqDiff, Nat.reduceAdd, Nat.reduceSub, Nat.reduceMul, Nat.reduceLeDiff, Int.reduceLT, Int.reduceLE, Int.reduceEq, ↓reduceIte, Int.reduceNeg, Int.reduceAdd, Int.reduceSub, Int.reduceMul, true_imp_iff, forall_const, Nat.mul_one, Int.reduceToNat, Nat.reducePow, Int.reducePow, Bool.true_and, Bool.false_and, Bool.and_false]
    exact retC_by (by repeat' (first | exact Drop.refl _ | with_reducible refine Drop.off ?_ (by assumption))) (.refl _) ⟨rfl, rfl⟩
/-- What both Fixed give for a rounded number. -/
def fixAV (o : Option Int) (p : Int) : AV :=
  match o with
  | some r => .tuple [.str (fixedP r p.toNat), .bool true]
  | none => .tuple [.str [], .bool false]
theorem fourP_len (p : Nat) : (fourP p).length = 4 := rfl
theorem fixed_ok {σ : ASt} (h : Tab σ) {a p : Int} {o : Option Int} (h0 : 0 ≤ p) (h4 : p ≤ 4) (hR : ACalls Tryd.prog 13 [.int .i64 a, .int .i64 p] σ fun v σ' => v = resAV o ∧ σ' = σ) (ho : ∀ r, o = some r → r.natAbs ≤ 999999999999999999) :
    ACalls Tryd.prog 23 [.int .i64 a, .int .i64 p] σ fun v σ' => v = fixAV o p ∧ σ' = σ := by
  have g1 : ¬ p < 0 := by omega
  have g2 : ¬ 4 < p := by omega
  refine a23 (by simp) ?_
  cases o with
  | none =>
    simp only [resAV, Option.getD_none, Option.isSome_none] at hR
    simp (disch := first | assumption | omega | (simp only [List.length_append, List.length_cons, List.length_nil]; omega)) only [go_sem, reduceCtorEq, Nat.reduceEqDiff, Nat.reduceAdd, Nat.reduceSub, Nat.reduceMul, Nat.reduceLeDiff, Int.reduceLT, Int.reduceLE, Int.reduceEq, ↓reduceIte, Int.reduceNeg, Int.reduceAdd, Int.reduceSub, Int.reduceMul, true_imp_iff, forall_const, Nat.mul_one, Int.reduceToNat, Nat.reducePow, Int.reducePow, Bool.true_and, Bool.false_and, Bool.and_false, g1, g2]
    refine hR.mono ?_
    rintro v σ' ⟨rfl, rfl⟩
    simp (disch := first | assumption | omega | (simp only [List.length_append, List.length_cons, List.length_nil]; omega)) only [go_sem, reduceCtorEq, Nat.reduceEqDiff, Nat.reduceAdd, Nat.reduceSub, Nat.reduceMul, Nat.reduceLeDiff, Int.reduceLT, Int.reduceLE, Int.reduceEq, ↓reduceIte, Int.reduceNeg, Int.reduceAdd, Int.reduceSub, Int.reduceMul, true_imp_iff, forall_const, Nat.mul_one, Int.reduceToNat, Nat.reducePow, Int.reducePow, Bool.true_and, Bool.false_and, Bool.and_false]
    exact retC_by (by repeat' (first | exact Drop.refl _ | with_reducible refine Drop.off ?_ (by assumption))) (.refl _) ⟨rfl, rfl⟩
  | some r =>
    have hr := ho r rfl
    simp only [resAV, Option.getD_some, Option.isSome_some] at hR
    simp only [fixAV]
    have hS := size_ok r (by omega) (by omega)
    obtain ⟨T, hT⟩ : ∃ T, fixedP r p.toNat = T := ⟨_, rfl⟩
    rw [hT]
    unfold fixedP at hT
    obtain ⟨s, hs⟩ : ∃ s, r.natAbs = s := ⟨_, rfl⟩
    rw [hs] at hS hT hr
    have hd : (s : Int).tdiv 10000 = ((s / 10000 : Nat) : Int) := rfl
    have hm : (s : Int).tmod 10000 = ((s % 10000 : Nat) : Int) := rfl
    have hmm : s % 10000 < 10000 := Nat.mod_lt _ (by omega)
    have hw : s / 10000 ≤ 99999999999999 := by omega
    obtain ⟨m, hme⟩ : ∃ m, s % 10000 = m := ⟨_, rfl⟩
    obtain ⟨q, hqe⟩ : ∃ q, s / 10000 = q := ⟨_, rfl⟩
    rw [hme] at hmm hm hT
    rw [hqe] at hd hw hT
    have hqw : IntKind.u64.wrap (q : Int) = q := by rw [IntKind.wrap_u64]; omega
    have hql : (Lib.decDigits q).length ≤ 15 := dd_len 14 q (by omega)
    obtain ⟨F, hF⟩ : ∃ F, F = ACode.wp Tryd.prog c23_24 := ⟨_, rfl⟩
    have fin : ∀ (a1 : AFr) (X : List UInt8), X.length ≤ 30 → (if r < 0 then [45] else []) ++ X = T → (a1 6 = .int .i64 r ∧ a1 9 = .str X) → F (RetQ [.t 4, .t 5] fun v σ' => v = .tuple [.str T, .bool true] ∧ σ' = σ) a1 σ := by
      intro a1 X hX hXT hf
      rw [hF]
      by_cases hn : r < 0
      · rw [if_pos hn] at hXT
        have e1 : binS .add [45] X = some (.str T) := by rw [binS_add (by simp; omega), hXT]
        simp (disch := first | assumption | omega | (simp only [List.length_append, List.length_cons, List.length_nil]; omega)) only [go_sem, reduceCtorEq, Nat.reduceEqDiff, Nat.reduceAdd, Nat.reduceSub, Nat.reduceMul, Nat.reduceLeDiff, Int.reduceLT, Int.reduceLE, Int.reduceEq, ↓reduceIte, Int.reduceNeg, Int.reduceAdd, Int.reduceSub, Int.reduceMul, true_imp_iff, forall_const, Nat.mul_one, Int.reduceToNat, Nat.reducePow, Int.reducePow, Bool.true_and, Bool.false_and, Bool.and_false, hf, hn, e1]
        exact retC_by (by repeat' (first | exact Drop.refl _ | with_reducible refine Drop.off ?_ (by assumption))) (.refl _) ⟨rfl, rfl⟩
      · rw [if_neg hn, List.nil_append] at hXT
        subst hXT
        simp (disch := first | assumption | omega | (simp only [List.length_append, List.length_cons, List.length_nil]; omega)) only [go_sem, reduceCtorEq, Nat.reduceEqDiff, Nat.reduceAdd, Nat.reduceSub, Nat.reduceMul, Nat.reduceLeDiff, Int.reduceLT, Int.reduceLE, Int.reduceEq, ↓reduceIte, Int.reduceNeg, Int.reduceAdd, Int.reduceSub, Int.reduceMul, true_imp_iff, forall_const, Nat.mul_one, Int.reduceToNat, Nat.reducePow, Int.reducePow, Bool.true_and, Bool.false_and, Bool.and_false, hf, hn]
        exact retC_by (by repeat' (first | exact Drop.refl _ | with_reducible refine Drop.off ?_ (by assumption))) (.refl _) ⟨rfl, rfl⟩
    simp (disch := first | assumption | omega | (simp only [List.length_append, List.length_cons, List.length_nil]; omega)) only [go_sem, reduceCtorEq, Nat.reduceEqDiff, Nat.reduceAdd, Nat.reduceSub, Nat.reduceMul, Nat.reduceLeDiff, Int.reduceLT, Int.reduceLE, Int.reduceEq, ↓reduceIte, Int.reduceNeg, Int.reduceAdd, Int.reduceSub, Int.reduceMul, true_imp_iff, forall_const, Nat.mul_one, Int.reduceToNat, Nat.reducePow, Int.reducePow, Bool.true_and, Bool.false_and, Bool.and_false, g1, g2, ←hF]
    refine hR.mono ?_
    rintro v σ' ⟨rfl, rfl⟩
    simp (disch := first | assumption | omega | (simp only [List.length_append, List.length_cons, List.length_nil]; omega)) only [go_sem, reduceCtorEq, Nat.reduceEqDiff, Nat.reduceAdd, Nat.reduceSub, Nat.reduceMul, Nat.reduceLeDiff, Int.reduceLT, Int.reduceLE, Int.reduceEq, ↓reduceIte, Int.reduceNeg, Int.reduceAdd, Int.reduceSub, Int.reduceMul, true_imp_iff, forall_const, Nat.mul_one, Int.reduceToNat, Nat.reducePow, Int.reducePow, Bool.true_and, Bool.false_and, Bool.and_false, ←hF]
    refine hS.use ?_
    simp (disch := first | assumption | omega | (simp only [List.length_append, List.length_cons, List.length_nil]; omega)) only [go_sem, reduceCtorEq, Nat.reduceEqDiff, Nat.reduceAdd, Nat.reduceSub, Nat.reduceMul, Nat.reduceLeDiff, Int.reduceLT, Int.reduceLE, Int.reduceEq, ↓reduceIte, Int.reduceNeg, Int.reduceAdd, Int.reduceSub, Int.reduceMul, true_imp_iff, forall_const, Nat.mul_one, Int.reduceToNat, Nat.reducePow, Int.reducePow, Bool.true_and, Bool.false_and, Bool.and_false, hd, hqw, ←hF]
    refine (fmt_ok h (u := q) (by omega)).mono ?_
    rintro v σ' ⟨rfl, rfl⟩
    by_cases hp : 0 < p
    · obtain ⟨k, hk⟩ : ∃ k, p.toNat = k := ⟨_, rfl⟩
      rw [hk, if_neg (show ¬ k = 0 by omega)] at hT
      have hDl : (Lib.decDigits (10000 + m)).length ≤ 5 := dd_len 4 _ (by omega)
      have hF4 := fmt_ok h (u := 10000 + m) (by omega)
      rw [show (((10000 + m : Nat) : Int)) = (10000 : Int) + m by omega] at hF4
      have ht := dd_four hmm
      have htl : ((Lib.decDigits (10000 + m)).take (k + 1)).drop 1 = (fourP m).take k := by
        rw [← ht]
        cases hd5 : Lib.decDigits (10000 + m) with
        | nil => exact absurd hd5 (dd_len_pos _)
        | cons c l => simp
      have hD5 : (Lib.decDigits (10000 + m)).length = 5 := by
        have := congrArg List.length ht
        rw [List.length_tail, fourP_len] at this
        omega
      generalize Lib.decDigits (10000 + m) = D at *
      have n1 : (1 + p).toNat = k + 1 := by omega
      have g5 : 1 + p ≤ D.length := by omega
      have g6 : (1 : Int) ≤ 1 + p := by omega
      have hfl : ((fourP m).take k).length ≤ 4 := by rw [List.length_take, fourP_len]; omega
      generalize (fourP m).take k = Y at *
      have e1 : binS .add [46] Y = some (.str (46 :: Y)) := binS_add (by simp; omega)
      have e2 : binS .add (Lib.decDigits q) (46 :: Y) = some (.str (Lib.decDigits q ++ 46 :: Y)) := binS_add (by simp; omega)
      simp (disch := first | assumption | omega | (simp only [List.length_append, List.length_cons, List.length_nil]; omega)) only [go_sem, reduceCtorEq, Nat.reduceEqDiff, Nat.reduceAdd, Nat.reduceSub, Nat.reduceMul, Nat.reduceLeDiff, Int.reduceLT, Int.reduceLE, Int.reduceEq, ↓reduceIte, Int.reduceNeg, Int.reduceAdd, Int.reduceSub, Int.reduceMul, true_imp_iff, forall_const, Nat.mul_one, Int.reduceToNat, Nat.reducePow, Int.reducePow, Bool.true_and, Bool.false_and, Bool.and_false, hp, hm, ←hF]
      refine hF4.mono ?_
      rintro v σ' ⟨rfl, rfl⟩
      simp (disch := first | assumption | omega | (simp only [List.length_append, List.length_cons, List.length_nil]; omega)) only [go_sem, reduceCtorEq, Nat.reduceEqDiff, Nat.reduceAdd, Nat.reduceSub, Nat.reduceMul, Nat.reduceLeDiff, Int.reduceLT, Int.reduceLE, Int.reduceEq, ↓reduceIte, Int.reduceNeg, Int.reduceAdd, Int.reduceSub, Int.reduceMul, true_imp_iff, forall_const, Nat.mul_one, Int.reduceToNat, Nat.reducePow, Int.reducePow, Bool.true_and, Bool.false_and, Bool.and_false, n1, g5, g6, htl, e1, e2, ←hF]
      refine fin _ (Lib.decDigits q ++ 46 :: Y) (by simp; omega) hT ?_
      simp (disch := first | assumption | omega | (simp only [List.length_append, List.length_cons, List.length_nil]; omega)) only [go_sem, reduceCtorEq, Nat.reduceEqDiff, Nat.reduceAdd, Nat.reduceSub, Nat.reduceMul, Nat.reduceLeDiff, Int.reduceLT, Int.reduceLE, Int.reduceEq, ↓reduceIte, Int.reduceNeg, Int.reduceAdd, Int.reduceSub, Int.reduceMul, true_imp_iff, forall_const, Nat.mul_one, Int.reduceToNat, Nat.reducePow, Int.reducePow, Bool.true_and, Bool.false_and, Bool.and_false]
    · have hp0 : p.toNat = 0 := by omega
      rw [hp0, if_pos (show (0 : Nat) = 0 from rfl), List.append_nil] at hT
      simp (disch := first | assumption | omega | (simp only [List.length_append, List.length_cons, List.length_nil]; omega)) only [go_sem, reduceCtorEq, Nat.reduceEqDiff, Nat.reduceAdd, Nat.reduceSub, Nat.reduceMul, Nat.reduceLeDiff, Int.reduceLT, Int.reduceLE, Int.reduceEq, ↓reduceIte, Int.reduceNeg, Int.reduceAdd, Int.reduceSub, Int.reduceMul, true_imp_iff, forall_const, Nat.mul_one, Int.reduceToNat, Nat.reducePow, Int.reducePow, Bool.true_and, Bool.false_and, Bool.and_false, hp, ←hF]
      refine fin _ (Lib.decDigits q) (by omega) hT ?_
      simp (disch := first | assumption | omega | (simp only [List.length_append, List.length_cons, List.length_nil]; omega)) only [go_sem, reduceCtorEq, Nat.reduceEqDiff, Nat.reduceAdd, Nat.reduceSub, Nat.reduceMul, Nat.reduceLeDiff, Int.reduceLT, Int.reduceLE, Int.reduceEq, ↓reduceIte, Int.reduceNeg, Int.reduceAdd, Int.reduceSub, Int.reduceMul, true_imp_iff, forall_const, Nat.mul_one, Int.reduceToNat, Nat.reducePow, Int.reducePow, Bool.true_and, Bool.false_and, Bool.and_false]
theorem fixed_no {a p : Int} (h : p < 0 ∨ 4 < p) : Pure Tryd.prog 23 [.int .i64 a, .int .i64 p] (.tuple [.str [], .bool false]) := by
  intro σ
  refine a23 (by simp) ?_
  by_cases h0 : p < 0
  · simp (disch := first | assumption | omega | (simp only [List.length_append, List.length_cons, List.length_nil]; omega)) only [go_sem, reduceCtorEq, Nat.reduceEqDiff, Nat.reduceAdd, Nat.reduceSub, Nat.reduceMul, Nat.reduceLeDiff, Int.reduceLT, Int.reduceLE, Int.reduceEq, ↓reduceIte, Int.reduceNeg, Int.reduceAdd, Int.reduceSub, Int.reduceMul, true_imp_iff, forall_const, Nat.mul_one, Int.reduceToNat, Nat.reducePow, Int.reducePow, Bool.true_and, Bool.false_and, Bool.and_false, h0]
    exact retC_by (by repeat' (first | exact Drop.refl _ | with_reducible refine Drop.off ?_ (by assumption))) (.refl _) ⟨rfl, rfl⟩
  · have h4 : 4 < p := by omega
    simp (disch := first | assumption | omega | (simp only [List.length_append, List.length_cons, List.length_nil]; omega)) only [go_sem, reduceCtorEq, Nat.reduceEqDiff, Nat.reduceAdd, Nat.reduceSub, Nat.reduceMul, Nat.reduceLeDiff, Int.reduceLT, Int.reduceLE, Int.reduceEq, ↓reduceIte, Int.reduceNeg, Int.reduceAdd, Int.reduceSub, Int.reduceMul, true_imp_iff, forall_const, Nat.mul_one, Int.reduceToNat, Nat.reducePow, Int.reducePow, Bool.true_and, Bool.false_and, Bool.and_false, h0, h4]
    exact retC_by (by repeat' (first | exact Drop.refl _ | with_reducible refine Drop.off ?_ (by assumption))) (.refl _) ⟨rfl, rfl⟩
theorem rfixed_no {a p : Int} (h : p < 0 ∨ 4 < p) : Pure Tryd.prog 24 [.int .i64 a, .int .i64 p] (.tuple [.str [], .bool false]) := by
  intro σ
  refine a24 (by simp) ?_
  by_cases h0 : p < 0
  · simp (disch := first | assumption | omega | (simp only [List.length_append, List.length_cons, List.length_nil]; omega)) only [go_sem, reduceCtorEq, Nat.reduceEqDiff, Nat.reduceAdd, Nat.reduceSub, Nat.reduceMul, Nat.reduceLeDiff, Int.reduceLT, Int.reduceLE, Int.reduceEq, ↓reduceIte, Int.reduceNeg, Int.reduceAdd, Int.reduceSub, Int.reduceMul, true_imp_iff, forall_const, Nat.mul_one, Int.reduceToNat, Nat.reducePow, Int.reducePow, Bool.true_and, Bool.false_and, Bool.and_false, h0]
    exact retC_by (by repeat' (first | exact Drop.refl _ | with_reducible refine Drop.off ?_ (by assumption))) (.refl _) ⟨rfl, rfl⟩
  · have h4 : 4 < p := by omega
    simp (disch := first | assumption | omega | (simp only [List.length_append, List.length_cons, List.length_nil]; omega)) only [go_sem, reduceCtorEq, Nat.reduceEqDiff, Nat.reduceAdd, Nat.reduceSub, Nat.reduceMul, Nat.reduceLeDiff, Int.reduceLT, Int.reduceLE, Int.reduceEq, ↓reduceIte, Int.reduceNeg, Int.reduceAdd, Int.reduceSub, Int.reduceMul, true_imp_iff, forall_const, Nat.mul_one, Int.reduceToNat, Nat.reducePow, Int.reducePow, Bool.true_and, Bool.false_and, Bool.and_false, h0, h4]
    exact retC_by (by repeat' (first | exact Drop.refl _ | with_reducible refine Drop.off ?_ (by assumption))) (.refl _) ⟨rfl, rfl⟩
theorem rfixed_ok {a p : Int} {o : Option Int} (h0 : 0 ≤ p) (h4 : p ≤ 4) (hR : Pure Tryd.prog 26 [.int .i64 a, .int .i64 p] (resAV o)) (ho : ∀ r, o = some r → r.natAbs ≤ 999999999999999999) :
    Pure Tryd.prog 24 [.int .i64 a, .int .i64 p] (fixAV o p) := by
  intro σ
  have g1 : ¬ p < 0 := by omega
  have g2 : ¬ 4 < p := by omega
  refine a24 (by simp) ?_
  cases o with
  | none =>
    simp only [resAV, Option.getD_none, Option.isSome_none] at hR
    simp (disch := first | assumption | omega | (simp only [List.length_append, List.length_cons, List.length_nil]; omega)) only [go_sem, reduceCtorEq, Nat.reduceEqDiff, Nat.reduceAdd, Nat.reduceSub, Nat.reduceMul, Nat.reduceLeDiff, Int.reduceLT, Int.reduceLE, Int.reduceEq, ↓reduceIte, Int.reduceNeg, Int.reduceAdd, Int.reduceSub, Int.reduceMul, true_imp_iff, forall_const, Nat.mul_one, Int.reduceToNat, Nat.reducePow, Int.reducePow, Bool.true_and, Bool.false_and, Bool.and_false, g1, g2]
    refine hR.use ?_
    simp (disch := first | assumption | omega | (simp only [List.length_append, List.length_cons, List.length_nil]; omega)) only [go_sem, reduceCtorEq, Nat.reduceEqDiff, Nat.reduceAdd, Nat.reduceSub, Nat.reduceMul, Nat.reduceLeDiff, Int.reduceLT, Int.reduceLE, Int.reduceEq, ↓reduceIte, Int.reduceNeg, Int.reduceAdd, Int.reduceSub, Int.reduceMul, true_imp_iff, forall_const, Nat.mul_one, Int.reduceToNat, Nat.reducePow, Int.reducePow, Bool.true_and, Bool.false_and, Bool.and_false]
    exact retC_by (by repeat' (first | exact Drop.refl _ | with_reducible refine Drop.off ?_ (by assumption))) (.refl _) ⟨rfl, rfl⟩
  | some r =>
    have hr := ho r rfl
    simp only [resAV, Option.getD_some, Option.isSome_some] at hR
    simp only [fixAV]
    have hS := rsize_ok r hr
    have hDg := rdigits_ok r.natAbs (by omega)
    have hpad := pad_dd r.natAbs
    have hdl : (Lib.decDigits r.natAbs).length ≤ 18 := dd_len 17 _ (by omega)
    obtain ⟨T, hT⟩ : ∃ T, fixedP r p.toNat = T := ⟨_, rfl⟩
    rw [hT]
    unfold fixedP at hT
    generalize r.natAbs / 10000 = q at *
    generalize r.natAbs % 10000 = m at *
    generalize Lib.decDigits r.natAbs = S at *
    have hql : (Lib.decDigits q).length ≤ 19 := by
      have := congrArg List.length hpad
      unfold padP at this
      simp [fourP_len] at this
      omega
    generalize Lib.decDigits q = W at *
    obtain ⟨F, hF⟩ : ∃ F, F = ACode.wp Tryd.prog c24_32 := ⟨_, rfl⟩
    have fin : ∀ (a1 : AFr) (X : List UInt8), X.length ≤ 30 → (if r < 0 then [45] else []) ++ X = T → (a1 6 = .int .i64 r ∧ a1 9 = .str X) → F (RetQ [.t 4, .t 5] fun v σ' => v = .tuple [.str T, .bool true] ∧ σ' = σ) a1 σ := by
      intro a1 X hX hXT hf
      rw [hF]
      by_cases hn : r < 0
      · rw [if_pos hn] at hXT
        have e1 : binS .add [45] X = some (.str T) := by rw [binS_add (by simp; omega), hXT]
        simp (disch := first | assumption | omega | (simp only [List.length_append, List.length_cons, List.length_nil]; omega)) only [go_sem, reduceCtorEq, Nat.reduceEqDiff, Nat.reduceAdd, Nat.reduceSub, Nat.reduceMul, Nat.reduceLeDiff, Int.reduceLT, Int.reduceLE, Int.reduceEq, ↓reduceIte, Int.reduceNeg, Int.reduceAdd, Int.reduceSub, Int.reduceMul, true_imp_iff, forall_const, Nat.mul_one, Int.reduceToNat, Nat.reducePow, Int.reducePow, Bool.true_and, Bool.false_and, Bool.and_false, hf, hn, e1]
        exact retC_by (by repeat' (first | exact Drop.refl _ | with_reducible refine Drop.off ?_ (by assumption))) (.refl _) ⟨rfl, rfl⟩
      · rw [if_neg hn, List.nil_append] at hXT
        subst hXT
        simp (disch := first | assumption | omega | (simp only [List.length_append, List.length_cons, List.length_nil]; omega)) only [go_sem, reduceCtorEq, Nat.reduceEqDiff, Nat.reduceAdd, Nat.reduceSub, Nat.reduceMul, Nat.reduceLeDiff, Int.reduceLT, Int.reduceLE, Int.reduceEq, ↓reduceIte, Int.reduceNeg, Int.reduceAdd, Int.reduceSub, Int.reduceMul, true_imp_iff, forall_const, Nat.mul_one, Int.reduceToNat, Nat.reducePow, Int.reducePow, Bool.true_and, Bool.false_and, Bool.and_false, hf, hn]
        exact retC_by (by repeat' (first | exact Drop.refl _ | with_reducible refine Drop.off ?_ (by assumption))) (.refl _) ⟨rfl, rfl⟩
    simp (disch := first | assumption | omega | (simp only [List.length_append, List.length_cons, List.length_nil]; omega)) only [go_sem, reduceCtorEq, Nat.reduceEqDiff, Nat.reduceAdd, Nat.reduceSub, Nat.reduceMul, Nat.reduceLeDiff, Int.reduceLT, Int.reduceLE, Int.reduceEq, ↓reduceIte, Int.reduceNeg, Int.reduceAdd, Int.reduceSub, Int.reduceMul, true_imp_iff, forall_const, Nat.mul_one, Int.reduceToNat, Nat.reducePow, Int.reducePow, Bool.true_and, Bool.false_and, Bool.and_false, g1, g2, ←hF]
    refine hR.use ?_
    simp (disch := first | assumption | omega | (simp only [List.length_append, List.length_cons, List.length_nil]; omega)) only [go_sem, reduceCtorEq, Nat.reduceEqDiff, Nat.reduceAdd, Nat.reduceSub, Nat.reduceMul, Nat.reduceLeDiff, Int.reduceLT, Int.reduceLE, Int.reduceEq, ↓reduceIte, Int.reduceNeg, Int.reduceAdd, Int.reduceSub, Int.reduceMul, true_imp_iff, forall_const, Nat.mul_one, Int.reduceToNat, Nat.reducePow, Int.reducePow, Bool.true_and, Bool.false_and, Bool.and_false, ←hF]
    refine hS.use ?_
    simp (disch := first | assumption | omega | (simp only [List.length_append, List.length_cons, List.length_nil]; omega)) only [go_sem, reduceCtorEq, Nat.reduceEqDiff, Nat.reduceAdd, Nat.reduceSub, Nat.reduceMul, Nat.reduceLeDiff, Int.reduceLT, Int.reduceLE, Int.reduceEq, ↓reduceIte, Int.reduceNeg, Int.reduceAdd, Int.reduceSub, Int.reduceMul, true_imp_iff, forall_const, Nat.mul_one, Int.reduceToNat, Nat.reducePow, Int.reducePow, Bool.true_and, Bool.false_and, Bool.and_false, ←hF]
    refine hDg.use ?_
    simp (disch := first | assumption | omega | (simp only [List.length_append, List.length_cons, List.length_nil]; omega)) only [go_sem, reduceCtorEq, Nat.reduceEqDiff, Nat.reduceAdd, Nat.reduceSub, Nat.reduceMul, Nat.reduceLeDiff, Int.reduceLT, Int.reduceLE, Int.reduceEq, ↓reduceIte, Int.reduceNeg, Int.reduceAdd, Int.reduceSub, Int.reduceMul, true_imp_iff, forall_const, Nat.mul_one, Int.reduceToNat, Nat.reducePow, Int.reducePow, Bool.true_and, Bool.false_and, Bool.and_false, ←hF]
    refine wp_loop_on (fun (l : List UInt8) a1 s2 => padP l 4 = W ++ fourP m ∧ l.length ≤ 40 ∧ (a1 1 = .int .i64 p ∧ a1 6 = .int .i64 r ∧ a1 8 = .str l) ∧ s2 = σ) (fun l => 40 - l.length) S ⟨hpad, by omega, ?_, rfl⟩ ?_
    · simp (disch := first | assumption | omega | (simp only [List.length_append, List.length_cons, List.length_nil]; omega)) only [go_sem, reduceCtorEq, Nat.reduceEqDiff, Nat.reduceAdd, Nat.reduceSub, Nat.reduceMul, Nat.reduceLeDiff, Int.reduceLT, Int.reduceLE, Int.reduceEq, ↓reduceIte, Int.reduceNeg, Int.reduceAdd, Int.reduceSub, Int.reduceMul, true_imp_iff, forall_const, Nat.mul_one, Int.reduceToNat, Nat.reducePow, Int.reducePow, Bool.true_and, Bool.false_and, Bool.and_false]
    rintro l a1 s2 ⟨hpl, hl, hf, rfl⟩
    by_cases hle : l.length ≤ 4
    · have hle' : (l.length : Int) < 5 := by omega
      have e1 : binS .add [48] l = some (.str (48 :: l)) := binS_add (by simp; omega)
      simp (disch := first | assumption | omega | (simp only [List.length_append, List.length_cons, List.length_nil]; omega)) only [go_sem, reduceCtorEq, Nat.reduceEqDiff, Nat.reduceAdd, Nat.reduceSub, Nat.reduceMul, Nat.reduceLeDiff, Int.reduceLT, Int.reduceLE, Int.reduceEq, ↓reduceIte, Int.reduceNeg, Int.reduceAdd, Int.reduceSub, Int.reduceMul, true_imp_iff, forall_const, Nat.mul_one, Int.reduceToNat, Nat.reducePow, Int.reducePow, Bool.true_and, Bool.false_and, Bool.and_false, hf, hle', e1, ←hF]
      exact ⟨48 :: l, by simp; omega, by rw [padP_more hle, hpl], by simp; omega, rfl⟩
    · have hle' : ¬ (l.length : Int) < 5 := by omega
      rw [padP_done (by omega)] at hpl
      have hll : l.length = W.length + 4 := by rw [hpl]; simp [fourP_len]
      have e0 : (l.length : Int) - 4 = W.length := by omega
      have n0 : ((W.length : Nat) : Int).toNat = W.length := by omega
      have t0 : l.take W.length = W := by rw [hpl]; simp
      have g3 : (W.length : Int) ≤ l.length := by omega
      by_cases hp : 0 < p
      · obtain ⟨k, hk⟩ : ∃ k, p.toNat = k := ⟨_, rfl⟩
        rw [hk, if_neg (show ¬ k = 0 by omega)] at hT
        have n1 : ((W.length : Int) + p).toNat = W.length + k := by omega
        have t1 : (l.take (W.length + k)).drop W.length = (fourP m).take k := by rw [hpl, List.take_append, List.drop_append]; simp
        have g4 : (W.length : Int) + p ≤ l.length := by omega
        have g5 : (W.length : Int) ≤ W.length + p := by omega
        have hfl : ((fourP m).take k).length ≤ 4 := by rw [List.length_take, fourP_len]; omega
        generalize (fourP m).take k = Y at *
        have e1 : binS .add [46] Y = some (.str (46 :: Y)) := binS_add (by simp; omega)
        have e2 : binS .add W (46 :: Y) = some (.str (W ++ 46 :: Y)) := binS_add (by simp; omega)
        simp (disch := first | assumption | omega | (simp only [List.length_append, List.length_cons, List.length_nil]; omega)) only [go_sem, reduceCtorEq, Nat.reduceEqDiff, Nat.reduceAdd, Nat.reduceSub, Nat.reduceMul, Nat.reduceLeDiff, Int.reduceLT, Int.reduceLE, Int.reduceEq, ↓reduceIte, Int.reduceNeg, Int.reduceAdd, Int.reduceSub, Int.reduceMul, true_imp_iff, forall_const, Nat.mul_one, Int.reduceToNat, Nat.reducePow, Int.reducePow, Bool.true_and, Bool.false_and, Bool.and_false, hf, hle', e0, n0, t0, g3, hp, n1, t1, g4, g5, e1, e2, ←hF]
        refine fin _ (W ++ 46 :: Y) (by simp; omega) hT ?_
        simp (disch := first | assumption | omega | (simp only [List.length_append, List.length_cons, List.length_nil]; omega)) only [go_sem, reduceCtorEq, Nat.reduceEqDiff, Nat.reduceAdd, Nat.reduceSub, Nat.reduceMul, Nat.reduceLeDiff, Int.reduceLT, Int.reduceLE, Int.reduceEq, ↓reduceIte, Int.reduceNeg, Int.reduceAdd, Int.reduceSub, Int.reduceMul, true_imp_iff, forall_const, Nat.mul_one, Int.reduceToNat, Nat.reducePow, Int.reducePow, Bool.true_and, Bool.false_and, Bool.and_false, hf]
      · have hp0 : p.toNat = 0 := by omega
        rw [hp0, if_pos (show (0 : Nat) = 0 from rfl), List.append_nil] at hT
        simp (disch := first | assumption | omega | (simp only [List.length_append, List.length_cons, List.length_nil]; omega)) only [go_sem, reduceCtorEq, Nat.reduceEqDiff, Nat.reduceAdd, Nat.reduceSub, Nat.reduceMul, Nat.reduceLeDiff, Int.reduceLT, Int.reduceLE, Int.reduceEq, ↓reduceIte, Int.reduceNeg, Int.reduceAdd, Int.reduceSub, Int.reduceMul, true_imp_iff, forall_const, Nat.mul_one, Int.reduceToNat, Nat.reducePow, Int.reducePow, Bool.true_and, Bool.false_and, Bool.and_false, hf, hle', e0, n0, t0, g3, hp, ←hF]
        refine fin _ W (by omega) hT ?_
        simp (disch := first | assumption | omega | (simp only [List.length_append, List.length_cons, List.length_nil]; omega)) only [go_sem, reduceCtorEq, Nat.reduceEqDiff, Nat.reduceAdd, Nat.reduceSub, Nat.reduceMul, Nat.reduceLeDiff, Int.reduceLT, Int.reduceLE, Int.reduceEq, ↓reduceIte, Int.reduceNeg, Int.reduceAdd, Int.reduceSub, Int.reduceMul, true_imp_iff, forall_const, Nat.mul_one, Int.reduceToNat, Nat.reducePow, Int.reducePow, Bool.true_and, Bool.false_and, Bool.and_false, hf]
end Go.A
namespace Go.A
open Go.Proofs
set_option maxRecDepth 100000
set_option linter.unusedSimpArgs false
set_option linter.unusedVariables false

theorem rtext_ok {a : Int} (ha : a.natAbs ≤ 999999999999999999) : Pure Tryd.prog 25 [.int .i64 a] (.str (textD a)) := by
  intro σ
  have hS := rsize_ok a ha
  have hDg := rdigits_ok a.natAbs (by omega)
  have hpad := pad_dd a.natAbs
  have hdl : (Lib.decDigits a.natAbs).length ≤ 18 := dd_len 17 _ (by omega)
  rw [text_is]
  have hm : a.natAbs % 10000 < 10000 := by omega
  generalize a.natAbs / 10000 = q at *
  generalize a.natAbs % 10000 = m at *
  generalize Lib.decDigits a.natAbs = S at *
  have hql : (Lib.decDigits q).length ≤ 19 := by
    have := congrArg List.length hpad
    unfold padP at this
    simp [fourP_len] at this
    omega
  generalize Lib.decDigits q = W at *
  refine a25 (by simp) ?_
  simp (disch := first | assumption | omega | (simp only [List.length_append, List.length_cons, List.length_nil]; omega)) only [go_sem, reduceCtorEq, Nat.reduceEqDiff, Nat.reduceAdd, Nat.reduceSub, Nat.reduceMul, Nat.reduceLeDiff, Int.reduceLT, Int.reduceLE, Int.reduceEq, ↓reduceIte, Int.reduceNeg, Int.reduceAdd, Int.reduceSub, Int.reduceMul, true_imp_iff, forall_const, Nat.mul_one, Int.reduceToNat, Nat.reducePow, Int.reducePow, Bool.true_and, Bool.false_and, Bool.and_false]
  refine hS.use ?_
  simp (disch := first | assumption | omega | (simp only [List.length_append, List.length_cons, List.length_nil]; omega)) only [go_sem, reduceCtorEq, Nat.reduceEqDiff, Nat.reduceAdd, Nat.reduceSub, Nat.reduceMul, Nat.reduceLeDiff, Int.reduceLT, Int.reduceLE, Int.reduceEq, ↓reduceIte, Int.reduceNeg, Int.reduceAdd, Int.reduceSub, Int.reduceMul, true_imp_iff, forall_const, Nat.mul_one, Int.reduceToNat, Nat.reducePow, Int.reducePow, Bool.true_and, Bool.false_and, Bool.and_false]
  refine hDg.use ?_
  simp (disch := first | assumption | omega | (simp only [List.length_append, List.length_cons, List.length_nil]; omega)) only [go_sem, reduceCtorEq, Nat.reduceEqDiff, Nat.reduceAdd, Nat.reduceSub, Nat.reduceMul, Nat.reduceLeDiff, Int.reduceLT, Int.reduceLE, Int.reduceEq, ↓reduceIte, Int.reduceNeg, Int.reduceAdd, Int.reduceSub, Int.reduceMul, true_imp_iff, forall_const, Nat.mul_one, Int.reduceToNat, Nat.reducePow, Int.reducePow, Bool.true_and, Bool.false_and, Bool.and_false]
  refine wp_loop_on (fun (l : List UInt8) a1 s2 => padP l 4 = W ++ fourP m ∧ l.length ≤ 40 ∧ (a1 0 = .int .i64 a ∧ a1 3 = .str l) ∧ s2 = σ) (fun l => 40 - l.length) S ⟨hpad, by omega, ?_, rfl⟩ ?_
  · simp (disch := first | assumption | omega | (simp only [List.length_append, List.length_cons, List.length_nil]; omega)) only [go_sem, reduceCtorEq, Nat.reduceEqDiff, Nat.reduceAdd, Nat.reduceSub, Nat.reduceMul, Nat.reduceLeDiff, Int.reduceLT, Int.reduceLE, Int.reduceEq, ↓reduceIte, Int.reduceNeg, Int.reduceAdd, Int.reduceSub, Int.reduceMul, true_imp_iff, forall_const, Nat.mul_one, Int.reduceToNat, Nat.reducePow, Int.reducePow, Bool.true_and, Bool.false_and, Bool.and_false]
  rintro l a1 s2 ⟨hpl, hl, hf, rfl⟩
  by_cases hle : l.length ≤ 4
  · have hle' : (l.length : Int) < 5 := by omega
    have e1 : binS .add [48] l = some (.str (48 :: l)) := binS_add (by simp; omega)
    simp (disch := first | assumption | omega | (simp only [List.length_append, List.length_cons, List.length_nil]; omega)) only [go_sem, reduceCtorEq, Nat.reduceEqDiff, Nat.reduceAdd, Nat.reduceSub, Nat.reduceMul, Nat.reduceLeDiff, Int.reduceLT, Int.reduceLE, Int.reduceEq, ↓reduceIte, Int.reduceNeg, Int.reduceAdd, Int.reduceSub, Int.reduceMul, true_imp_iff, forall_const, Nat.mul_one, Int.reduceToNat, Nat.reducePow, Int.reducePow, Bool.true_and, Bool.false_and, Bool.and_false, hf, hle', e1]
    exact ⟨48 :: l, by simp; omega, by rw [padP_more hle, hpl], by simp; omega, rfl⟩
  · have hle' : ¬ (l.length : Int) < 5 := by omega
    rw [padP_done (by omega)] at hpl
    have hll : l.length = W.length + 4 := by rw [hpl]; simp [fourP_len]
    have e0 : (l.length : Int) - 4 = W.length := by omega
    have n0 : ((W.length : Nat) : Int).toNat = W.length := by omega
    have t0 : l.take W.length = W := by rw [hpl]; simp
    have t1 : l.drop W.length = fourP m := by rw [hpl]; simp
    have g3 : (W.length : Int) ≤ l.length := by omega
    have h4 := fourP_len m
    generalize fourP m = P at *
    simp (disch := first | assumption | omega | (simp only [List.length_append, List.length_cons, List.length_nil]; omega)) only [go_sem, reduceCtorEq, Nat.reduceEqDiff, Nat.reduceAdd, Nat.reduceSub, Nat.reduceMul, Nat.reduceLeDiff, Int.reduceLT, Int.reduceLE, Int.reduceEq, ↓reduceIte, Int.reduceNeg, Int.reduceAdd, Int.reduceSub, Int.reduceMul, true_imp_iff, forall_const, Nat.mul_one, Int.reduceToNat, Nat.reducePow, Int.reducePow, Bool.true_and, Bool.false_and, Bool.and_false, hf, hle', e0, n0, t0, t1, g3, List.take_length]
    refine wp_loop_on (fun (x : List UInt8) a2 s3 => Lib.trimRightB x 48 = Lib.trimRightB P 48 ∧ x.length ≤ 4 ∧ (a2 0 = .int .i64 a ∧ a2 4 = .str W ∧ a2 5 = .str x) ∧ s3 = s2) (fun x => x.length) P ⟨rfl, by omega, ?_, rfl⟩ ?_
    · simp (disch := first | assumption | omega | (simp only [List.length_append, List.length_cons, List.length_nil]; omega)) only [go_sem, reduceCtorEq, Nat.reduceEqDiff, Nat.reduceAdd, Nat.reduceSub, Nat.reduceMul, Nat.reduceLeDiff, Int.reduceLT, Int.reduceLE, Int.reduceEq, ↓reduceIte, Int.reduceNeg, Int.reduceAdd, Int.reduceSub, Int.reduceMul, true_imp_iff, forall_const, Nat.mul_one, Int.reduceToNat, Nat.reducePow, Int.reducePow, Bool.true_and, Bool.false_and, Bool.and_false, hf]
    rintro x a2 s3 ⟨hx, hxl, hf, rfl⟩
    obtain ⟨F, hF⟩ : ∃ F, F = ACode.wp Tryd.prog c25_31 := ⟨_, rfl⟩
    have fin : ∀ (a3 : AFr), Lib.trimRightB P 48 = x → (a3 0 = .int .i64 a ∧ a3 4 = .str W ∧ a3 5 = .str x) → F (RetQ [.t 2] fun v σ' => v = .str ((if a < 0 then [45] else []) ++ (W ++ if Lib.trimRightB P 48 = [] then [] else 46 :: Lib.trimRightB P 48)) ∧ σ' = s3) a3 s3 := by
      intro a3 hP hf
      rw [hF, hP]
      by_cases hx0 : x = []
      · subst hx0
        rw [if_pos (show ([] : List UInt8) = [] from rfl), List.append_nil]
        by_cases hn : a < 0
        · rw [if_pos hn]
          have e1 : binS .add [45] W = some (.str ([45] ++ W)) := binS_add (by simp; omega)
          simp (disch := first | assumption | omega | (simp only [List.length_append, List.length_cons, List.length_nil]; omega)) only [go_sem, reduceCtorEq, Nat.reduceEqDiff, Nat.reduceAdd, Nat.reduceSub, Nat.reduceMul, Nat.reduceLeDiff, Int.reduceLT, Int.reduceLE, Int.reduceEq, ↓reduceIte, Int.reduceNeg, Int.reduceAdd, Int.reduceSub, Int.reduceMul, true_imp_iff, forall_const, Nat.mul_one, Int.reduceToNat, Nat.reducePow, Int.reducePow, Bool.true_and, Bool.false_and, Bool.and_false, hf, hn, e1]
          exact retC_by (by repeat' (first | exact Drop.refl _ | with_reducible refine Drop.off ?_ (by assumption))) (.refl _) ⟨rfl, rfl⟩
        · rw [if_neg hn]
          simp (disch := first | assumption | omega | (simp only [List.length_append, List.length_cons, List.length_nil]; omega)) only [go_sem, reduceCtorEq, Nat.reduceEqDiff, Nat.reduceAdd, Nat.reduceSub, Nat.reduceMul, Nat.reduceLeDiff, Int.reduceLT, Int.reduceLE, Int.reduceEq, ↓reduceIte, Int.reduceNeg, Int.reduceAdd, Int.reduceSub, Int.reduceMul, true_imp_iff, forall_const, Nat.mul_one, Int.reduceToNat, Nat.reducePow, Int.reducePow, Bool.true_and, Bool.false_and, Bool.and_false, hf, hn]
          exact retC_by (by repeat' (first | exact Drop.refl _ | with_reducible refine Drop.off ?_ (by assumption))) (.refl _) ⟨rfl, rfl⟩
      · rw [if_neg hx0]
        have hpos : (0 : Int) < x.length := by
          have := List.length_pos_iff.2 hx0
          omega
        have e2 : binS .add [46] x = some (.str (46 :: x)) := binS_add (by simp; omega)
        have e3 : binS .add W (46 :: x) = some (.str (W ++ 46 :: x)) := binS_add (by simp; omega)
        by_cases hn : a < 0
        · rw [if_pos hn]
          have e1 : binS .add [45] (W ++ 46 :: x) = some (.str ([45] ++ (W ++ 46 :: x))) := binS_add (by simp; omega)
          simp (disch := first | assumption | omega | (simp only [List.length_append, List.length_cons, List.length_nil]; omega)) only [go_sem, reduceCtorEq, Nat.reduceEqDiff, Nat.reduceAdd, Nat.reduceSub, Nat.reduceMul, Nat.reduceLeDiff, Int.reduceLT, Int.reduceLE, Int.reduceEq, ↓reduceIte, Int.reduceNeg, Int.reduceAdd, Int.reduceSub, Int.reduceMul, true_imp_iff, forall_const, Nat.mul_one, Int.reduceToNat, Nat.reducePow, Int.reducePow, Bool.true_and, Bool.false_and, Bool.and_false, hf, hpos, hn, e2, e3, e1]
          exact retC_by (by repeat' (first | exact Drop.refl _ | with_reducible refine Drop.off ?_ (by assumption))) (.refl _) ⟨rfl, rfl⟩
        · rw [if_neg hn]
          simp (disch := first | assumption | omega | (simp only [List.length_append, List.length_cons, List.length_nil]; omega)) only [go_sem, reduceCtorEq, Nat.reduceEqDiff, Nat.reduceAdd, Nat.reduceSub, Nat.reduceMul, Nat.reduceLeDiff, Int.reduceLT, Int.reduceLE, Int.reduceEq, ↓reduceIte, Int.reduceNeg, Int.reduceAdd, Int.reduceSub, Int.reduceMul, true_imp_iff, forall_const, Nat.mul_one, Int.reduceToNat, Nat.reducePow, Int.reducePow, Bool.true_and, Bool.false_and, Bool.and_false, hf, hpos, hn, e2, e3]
          exact retC_by (by repeat' (first | exact Drop.refl _ | with_reducible refine Drop.off ?_ (by assumption))) (.refl _) ⟨rfl, rfl⟩
    rcases List.eq_nil_or_concat x with rfl | ⟨y, c, rfl⟩
    · simp (disch := first | assumption | omega | (simp only [List.length_append, List.length_cons, List.length_nil]; omega)) only [go_sem, reduceCtorEq, Nat.reduceEqDiff, Nat.reduceAdd, Nat.reduceSub, Nat.reduceMul, Nat.reduceLeDiff, Int.reduceLT, Int.reduceLE, Int.reduceEq, ↓reduceIte, Int.reduceNeg, Int.reduceAdd, Int.reduceSub, Int.reduceMul, true_imp_iff, forall_const, Nat.mul_one, Int.reduceToNat, Nat.reducePow, Int.reducePow, Bool.true_and, Bool.false_and, Bool.and_false, hf, ←hF]
      refine fin _ hx.symm ?_
      simp (disch := first | assumption | omega | (simp only [List.length_append, List.length_cons, List.length_nil]; omega)) only [go_sem, reduceCtorEq, Nat.reduceEqDiff, Nat.reduceAdd, Nat.reduceSub, Nat.reduceMul, Nat.reduceLeDiff, Int.reduceLT, Int.reduceLE, Int.reduceEq, ↓reduceIte, Int.reduceNeg, Int.reduceAdd, Int.reduceSub, Int.reduceMul, true_imp_iff, forall_const, Nat.mul_one, Int.reduceToNat, Nat.reducePow, Int.reducePow, Bool.true_and, Bool.false_and, Bool.and_false, hf]
    · rw [List.concat_eq_append] at *
      obtain ⟨x, hxe⟩ : ∃ x, x = y ++ [c] := ⟨_, rfl⟩
      have hlen : x.length = y.length + 1 := by rw [hxe]; simp
      have hidx : x[y.length]? = some c := by rw [hxe]; simp
      have htk : x.take y.length = y := by rw [hxe]; simp
      rw [← hxe] at hx hxl hf fin ⊢
      have g5 : (0 : Int) < x.length := by omega
      have g6 : (x.length : Int) - 1 = y.length := by omega
      have g7 : (y.length : Int) < x.length := by omega
      have g8 : (y.length : Int) ≤ x.length := by omega
      have n5 : ((y.length : Nat) : Int).toNat = y.length := by omega
      by_cases hc : c = 48
      · have hc' : (c.toNat : Int) = 48 := by rw [hc]; rfl
        have hx2 : Lib.trimRightB y 48 = Lib.trimRightB P 48 := by rw [← hx, hxe, hc, trim_snoc]
        simp (disch := first | assumption | omega | (simp only [List.length_append, List.length_cons, List.length_nil]; omega)) only [go_sem, reduceCtorEq, Nat.reduceEqDiff, Nat.reduceAdd, Nat.reduceSub, Nat.reduceMul, Nat.reduceLeDiff, Int.reduceLT, Int.reduceLE, Int.reduceEq, ↓reduceIte, Int.reduceNeg, Int.reduceAdd, Int.reduceSub, Int.reduceMul, true_imp_iff, forall_const, Nat.mul_one, Int.reduceToNat, Nat.reducePow, Int.reducePow, Bool.true_and, Bool.false_and, Bool.and_false, hf, hidx, g5, g6, g7, g8, n5, htk, hc']
        exact ⟨y, by omega, hx2, by omega, rfl⟩
      · have hc' : ¬ (c.toNat : Int) = 48 := fun h => hc (UInt8.toNat_inj.1 (by have e : (48 : UInt8).toNat = 48 := rfl; omega))
        simp (disch := first | assumption | omega | (simp only [List.length_append, List.length_cons, List.length_nil]; omega)) only [go_sem, reduceCtorEq, Nat.reduceEqDiff, Nat.reduceAdd, Nat.reduceSub, Nat.reduceMul, Nat.reduceLeDiff, Int.reduceLT, Int.reduceLE, Int.reduceEq, ↓reduceIte, Int.reduceNeg, Int.reduceAdd, Int.reduceSub, Int.reduceMul, true_imp_iff, forall_const, Nat.mul_one, Int.reduceToNat, Nat.reducePow, Int.reducePow, Bool.true_and, Bool.false_and, Bool.and_false, hf, hidx, g5, g6, g7, g8, n5, hc', ←hF]
        refine fin _ (by rw [← hx, hxe, trim_stop hc]) ?_
        simp (disch := first | assumption | omega | (simp only [List.length_append, List.length_cons, List.length_nil]; omega)) only [go_sem, reduceCtorEq, Nat.reduceEqDiff, Nat.reduceAdd, Nat.reduceSub, Nat.reduceMul, Nat.reduceLeDiff, Int.reduceLT, Int.reduceLE, Int.reduceEq, ↓reduceIte, Int.reduceNeg, Int.reduceAdd, Int.reduceSub, Int.reduceMul, true_imp_iff, forall_const, Nat.mul_one, Int.reduceToNat, Nat.reducePow, Int.reducePow, Bool.true_and, Bool.false_and, Bool.and_false, hf]
theorem roundP_le {a r : Int} {u : Nat} (h : roundP a u = some r) : r.natAbs ≤ 999999999999999999 := by
  unfold roundP madeP at h
  split at h
  · injection h with h
    rw [← h]
    split <;> omega
  · cases h
theorem fixed_all {σ : ASt} (h : Tab σ) (hT : Tens σ) {a : Int} (p : Int) (ha : a.natAbs ≤ 999999999999999999) : ∃ (s : List UInt8) (b : Bool), s.length ≤ 1000 ∧ ACalls Tryd.prog 23 [.int .i64 a, .int .i64 p] σ (fun v σ' => v = .tuple [.str s, .bool b] ∧ σ' = σ) ∧ Pure Tryd.prog 24 [.int .i64 a, .int .i64 p] (.tuple [.str s, .bool b]) := by
  by_cases hp : p < 0 ∨ 4 < p
  · exact ⟨[], false, by simp, fixed_no hp σ, rfixed_no hp⟩
  · have h1 := round_ok4 hT ha (show 0 ≤ p by omega) (by omega)
    have h2 : Pure Tryd.prog 26 [.int .i64 a, .int .i64 p] (resAV (roundP a (10 ^ (4 - p).toNat))) := by
      by_cases h4 : p = 4
      · subst h4
        rw [show 10 ^ ((4 : Int) - 4).toNat = 1 by decide, roundP_one ha]
        exact rround_hi (by omega)
      · exact rround_ok ha (by omega) (by omega)
    have f1 := fixed_ok h (by omega) (by omega) h1 fun r hr => roundP_le hr
    have f2 := rfixed_ok (by omega) (by omega) h2 fun r hr => roundP_le hr
    cases ho : roundP a (10 ^ (4 - p).toNat) with
    | none =>
      rw [ho] at f1 f2
      exact ⟨_, _, by simp, f1, f2⟩
    | some r =>
      rw [ho] at f1 f2
      refine ⟨_, _, ?_, f1, f2⟩
      have := roundP_le ho
      have hq : (Lib.decDigits (r.natAbs / 10000)).length ≤ 18 := dd_len 17 _ (by omega)
      unfold fixedP
      have : ((fourP (r.natAbs % 10000)).take p.toNat).length ≤ 4 := by rw [List.length_take, fourP_len]; omega
      rw [List.length_append, List.length_append]
      split <;> split <;> simp <;> omega
set_option maxHeartbeats 1000000 in
theorem DeciTexts_any {σ : ASt} (h : Tab σ) (hT : Tens σ) (a : Int) (s : List UInt8) (p n : Int) (n0 : -9223372036854775808 ≤ n) (n1 : n ≤ 9223372036854775807) :
    ACalls Tryd.prog 7 [.int .i64 a, .str s, .int .i64 p, .int .i64 n] σ fun v σ' => v = .bool true ∧ σ' = σ := by
  have hA := dawake_ok h hT
  have hC := lcut_ok s 60
  have hsl : (s.take 60).length ≤ 60 := by rw [List.length_take]; omega
  generalize s.take 60 = t at *
  have hP := parse_ok t (by omega)
  have hPr := rparse_ok t (by omega)
  generalize parseD t = o at *
  have hs1 := same_ok (o.getD 0) o.isSome (o.getD 0) o.isSome
  rw [decide_eq_true ⟨rfl, rfl⟩] at hs1
  simp only [resAV] at hP hPr
  generalize o.getD 0 = x at *
  generalize o.isSome = i at *
  have hI := int_ok n n0 n1
  unfold intP at hI
  have e60 : (((60 : Nat) : Nat) : Int) = 60 := rfl
  rw [e60] at hC
  obtain ⟨F, hF⟩ : ∃ F, F = ACode.wp Tryd.prog c7_22 := ⟨_, rfl⟩
  have fin : ∀ (a1 : AFr), (a1 0 = .int .i64 a ∧ a1 2 = .int .i64 p) → F (RetQ [.t 8] fun v σ' => v = .bool true ∧ σ' = σ) a1 σ := by
    intro a1 hf
    rw [hF]
    simp (disch := first | assumption | omega | (simp only [List.length_append, List.length_cons, List.length_nil]; omega)) only [go_sem, reduceCtorEq, Nat.reduceEqDiff, Nat.reduceAdd, Nat.reduceSub, Nat.reduceMul, Nat.reduceLeDiff, Int.reduceLT, Int.reduceLE, Int.reduceEq, ↓reduceIte, Int.reduceNeg, Int.reduceAdd, Int.reduceSub, Int.reduceMul, true_imp_iff, forall_const, Nat.mul_one, Int.reduceToNat, Nat.reducePow, Int.reducePow, Bool.true_and, Bool.false_and, Bool.and_false, hf]
    refine (good_ok a).use ?_
    by_cases hg : a.natAbs ≤ 999999999999999999
    · obtain ⟨fs, fb, hfl, hf1, hf2⟩ := fixed_all h hT p hg
      simp (disch := first | assumption | omega | (simp only [List.length_append, List.length_cons, List.length_nil]; omega)) only [go_sem, reduceCtorEq, Nat.reduceEqDiff, Nat.reduceAdd, Nat.reduceSub, Nat.reduceMul, Nat.reduceLeDiff, Int.reduceLT, Int.reduceLE, Int.reduceEq, ↓reduceIte, Int.reduceNeg, Int.reduceAdd, Int.reduceSub, Int.reduceMul, true_imp_iff, forall_const, Nat.mul_one, Int.reduceToNat, Nat.reducePow, Int.reducePow, Bool.true_and, Bool.false_and, Bool.and_false, hf, hg]
      refine hf1.mono ?_
      rintro v σ' ⟨rfl, rfl⟩
      simp (disch := first | assumption | omega | (simp only [List.length_append, List.length_cons, List.length_nil]; omega)) only [go_sem, reduceCtorEq, Nat.reduceEqDiff, Nat.reduceAdd, Nat.reduceSub, Nat.reduceMul, Nat.reduceLeDiff, Int.reduceLT, Int.reduceLE, Int.reduceEq, ↓reduceIte, Int.reduceNeg, Int.reduceAdd, Int.reduceSub, Int.reduceMul, true_imp_iff, forall_const, Nat.mul_one, Int.reduceToNat, Nat.reducePow, Int.reducePow, Bool.true_and, Bool.false_and, Bool.and_false, hf]
      refine hf2.use ?_
      simp (disch := first | assumption | omega | (simp only [List.length_append, List.length_cons, List.length_nil]; omega)) only [go_sem, reduceCtorEq, Nat.reduceEqDiff, Nat.reduceAdd, Nat.reduceSub, Nat.reduceMul, Nat.reduceLeDiff, Int.reduceLT, Int.reduceLE, Int.reduceEq, ↓reduceIte, Int.reduceNeg, Int.reduceAdd, Int.reduceSub, Int.reduceMul, true_imp_iff, forall_const, Nat.mul_one, Int.reduceToNat, Nat.reducePow, Int.reducePow, Bool.true_and, Bool.false_and, Bool.and_false, hf]
      refine (text_ok h hg).mono ?_
      rintro v σ' ⟨rfl, rfl⟩
      simp (disch := first | assumption | omega | (simp only [List.length_append, List.length_cons, List.length_nil]; omega)) only [go_sem, reduceCtorEq, Nat.reduceEqDiff, Nat.reduceAdd, Nat.reduceSub, Nat.reduceMul, Nat.reduceLeDiff, Int.reduceLT, Int.reduceLE, Int.reduceEq, ↓reduceIte, Int.reduceNeg, Int.reduceAdd, Int.reduceSub, Int.reduceMul, true_imp_iff, forall_const, Nat.mul_one, Int.reduceToNat, Nat.reducePow, Int.reducePow, Bool.true_and, Bool.false_and, Bool.and_false, hf]
      refine (rtext_ok hg).use ?_
      simp (disch := first | assumption | omega | (simp only [List.length_append, List.length_cons, List.length_nil]; omega)) only [go_sem, reduceCtorEq, Nat.reduceEqDiff, Nat.reduceAdd, Nat.reduceSub, Nat.reduceMul, Nat.reduceLeDiff, Int.reduceLT, Int.reduceLE, Int.reduceEq, ↓reduceIte, Int.reduceNeg, Int.reduceAdd, Int.reduceSub, Int.reduceMul, true_imp_iff, forall_const, Nat.mul_one, Int.reduceToNat, Nat.reducePow, Int.reducePow, Bool.true_and, Bool.false_and, Bool.and_false, hf]
      exact retC_by (by repeat' (first | exact Drop.refl _ | with_reducible refine Drop.off ?_ (by assumption))) (.refl _) ⟨rfl, rfl⟩
    · simp (disch := first | assumption | omega | (simp only [List.length_append, List.length_cons, List.length_nil]; omega)) only [go_sem, reduceCtorEq, Nat.reduceEqDiff, Nat.reduceAdd, Nat.reduceSub, Nat.reduceMul, Nat.reduceLeDiff, Int.reduceLT, Int.reduceLE, Int.reduceEq, ↓reduceIte, Int.reduceNeg, Int.reduceAdd, Int.reduceSub, Int.reduceMul, true_imp_iff, forall_const, Nat.mul_one, Int.reduceToNat, Nat.reducePow, Int.reducePow, Bool.true_and, Bool.false_and, Bool.and_false, hf, hg]
      exact retC_by (by repeat' (first | exact Drop.refl _ | with_reducible refine Drop.off ?_ (by assumption))) (.refl _) ⟨rfl, rfl⟩
  refine a7 (by simp) ?_
  simp (disch := first | assumption | omega | (simp only [List.length_append, List.length_cons, List.length_nil]; omega)) only [go_sem, reduceCtorEq, Nat.reduceEqDiff, Nat.reduceAdd, Nat.reduceSub, Nat.reduceMul, Nat.reduceLeDiff, Int.reduceLT, Int.reduceLE, Int.reduceEq, ↓reduceIte, Int.reduceNeg, Int.reduceAdd, Int.reduceSub, Int.reduceMul, true_imp_iff, forall_const, Nat.mul_one, Int.reduceToNat, Nat.reducePow, Int.reducePow, Bool.true_and, Bool.false_and, Bool.and_false, ←hF]
  refine hC.use ?_
  simp (disch := first | assumption | omega | (simp only [List.length_append, List.length_cons, List.length_nil]; omega)) only [go_sem, reduceCtorEq, Nat.reduceEqDiff, Nat.reduceAdd, Nat.reduceSub, Nat.reduceMul, Nat.reduceLeDiff, Int.reduceLT, Int.reduceLE, Int.reduceEq, ↓reduceIte, Int.reduceNeg, Int.reduceAdd, Int.reduceSub, Int.reduceMul, true_imp_iff, forall_const, Nat.mul_one, Int.reduceToNat, Nat.reducePow, Int.reducePow, Bool.true_and, Bool.false_and, Bool.and_false, ←hF]
  refine hP.use ?_
  simp (disch := first | assumption | omega | (simp only [List.length_append, List.length_cons, List.length_nil]; omega)) only [go_sem, reduceCtorEq, Nat.reduceEqDiff, Nat.reduceAdd, Nat.reduceSub, Nat.reduceMul, Nat.reduceLeDiff, Int.reduceLT, Int.reduceLE, Int.reduceEq, ↓reduceIte, Int.reduceNeg, Int.reduceAdd, Int.reduceSub, Int.reduceMul, true_imp_iff, forall_const, Nat.mul_one, Int.reduceToNat, Nat.reducePow, Int.reducePow, Bool.true_and, Bool.false_and, Bool.and_false, ←hF]
  refine hPr.use ?_
  simp (disch := first | assumption | omega | (simp only [List.length_append, List.length_cons, List.length_nil]; omega)) only [go_sem, reduceCtorEq, Nat.reduceEqDiff, Nat.reduceAdd, Nat.reduceSub, Nat.reduceMul, Nat.reduceLeDiff, Int.reduceLT, Int.reduceLE, Int.reduceEq, ↓reduceIte, Int.reduceNeg, Int.reduceAdd, Int.reduceSub, Int.reduceMul, true_imp_iff, forall_const, Nat.mul_one, Int.reduceToNat, Nat.reducePow, Int.reducePow, Bool.true_and, Bool.false_and, Bool.and_false, ←hF]
  by_cases hn : n.natAbs ≤ 99999999999999
  · rw [if_pos hn] at hI
    simp only [resAV, Option.getD_some, Option.isSome_some] at hI
    have g1 : -99999999999999 ≤ n := by omega
    have g2 : n ≤ 99999999999999 := by omega
    have e1 : IntKind.i64.wrap (n * 10000) = n * 10000 := by rw [IntKind.wrap_i64]; omega
    refine hI.use ?_
    simp (disch := first | assumption | omega | (simp only [List.length_append, List.length_cons, List.length_nil]; omega)) only [go_sem, reduceCtorEq, Nat.reduceEqDiff, Nat.reduceAdd, Nat.reduceSub, Nat.reduceMul, Nat.reduceLeDiff, Int.reduceLT, Int.reduceLE, Int.reduceEq, ↓reduceIte, Int.reduceNeg, Int.reduceAdd, Int.reduceSub, Int.reduceMul, true_imp_iff, forall_const, Nat.mul_one, Int.reduceToNat, Nat.reducePow, Int.reducePow, Bool.true_and, Bool.false_and, Bool.and_false, g1, g2, ←hF]
    refine hA.mono ?_
    rintro v σ' ⟨rfl, rfl⟩
    simp (disch := first | assumption | omega | (simp only [List.length_append, List.length_cons, List.length_nil]; omega)) only [go_sem, reduceCtorEq, Nat.reduceEqDiff, Nat.reduceAdd, Nat.reduceSub, Nat.reduceMul, Nat.reduceLeDiff, Int.reduceLT, Int.reduceLE, Int.reduceEq, ↓reduceIte, Int.reduceNeg, Int.reduceAdd, Int.reduceSub, Int.reduceMul, true_imp_iff, forall_const, Nat.mul_one, Int.reduceToNat, Nat.reducePow, Int.reducePow, Bool.true_and, Bool.false_and, Bool.and_false, ←hF]
    refine hs1.use ?_
    simp (disch := first | assumption | omega | (simp only [List.length_append, List.length_cons, List.length_nil]; omega)) only [go_sem, reduceCtorEq, Nat.reduceEqDiff, Nat.reduceAdd, Nat.reduceSub, Nat.reduceMul, Nat.reduceLeDiff, Int.reduceLT, Int.reduceLE, Int.reduceEq, ↓reduceIte, Int.reduceNeg, Int.reduceAdd, Int.reduceSub, Int.reduceMul, true_imp_iff, forall_const, Nat.mul_one, Int.reduceToNat, Nat.reducePow, Int.reducePow, Bool.true_and, Bool.false_and, Bool.and_false, e1, ←hF]
    refine fin _ ?_
    simp (disch := first | assumption | omega | (simp only [List.length_append, List.length_cons, List.length_nil]; omega)) only [go_sem, reduceCtorEq, Nat.reduceEqDiff, Nat.reduceAdd, Nat.reduceSub, Nat.reduceMul, Nat.reduceLeDiff, Int.reduceLT, Int.reduceLE, Int.reduceEq, ↓reduceIte, Int.reduceNeg, Int.reduceAdd, Int.reduceSub, Int.reduceMul, true_imp_iff, forall_const, Nat.mul_one, Int.reduceToNat, Nat.reducePow, Int.reducePow, Bool.true_and, Bool.false_and, Bool.and_false]
  · rw [if_neg hn] at hI
    simp only [resAV, Option.getD_none, Option.isSome_none] at hI
    refine hI.use ?_
    by_cases g1 : -99999999999999 ≤ n
    · have g2 : ¬ n ≤ 99999999999999 := by omega
      simp (disch := first | assumption | omega | (simp only [List.length_append, List.length_cons, List.length_nil]; omega)) only [go_sem, reduceCtorEq, Nat.reduceEqDiff, Nat.reduceAdd, Nat.reduceSub, Nat.reduceMul, Nat.reduceLeDiff, Int.reduceLT, Int.reduceLE, Int.reduceEq, ↓reduceIte, Int.reduceNeg, Int.reduceAdd, Int.reduceSub, Int.reduceMul, true_imp_iff, forall_const, Nat.mul_one, Int.reduceToNat, Nat.reducePow, Int.reducePow, Bool.true_and, Bool.false_and, Bool.and_false, g1, g2, ←hF]
      refine hA.mono ?_
      rintro v σ' ⟨rfl, rfl⟩
      simp (disch := first | assumption | omega | (simp only [List.length_append, List.length_cons, List.length_nil]; omega)) only [go_sem, reduceCtorEq, Nat.reduceEqDiff, Nat.reduceAdd, Nat.reduceSub, Nat.reduceMul, Nat.reduceLeDiff, Int.reduceLT, Int.reduceLE, Int.reduceEq, ↓reduceIte, Int.reduceNeg, Int.reduceAdd, Int.reduceSub, Int.reduceMul, true_imp_iff, forall_const, Nat.mul_one, Int.reduceToNat, Nat.reducePow, Int.reducePow, Bool.true_and, Bool.false_and, Bool.and_false, ←hF]
      refine hs1.use ?_
      simp (disch := first | assumption | omega | (simp only [List.length_append, List.length_cons, List.length_nil]; omega)) only [go_sem, reduceCtorEq, Nat.reduceEqDiff, Nat.reduceAdd, Nat.reduceSub, Nat.reduceMul, Nat.reduceLeDiff, Int.reduceLT, Int.reduceLE, Int.reduceEq, ↓reduceIte, Int.reduceNeg, Int.reduceAdd, Int.reduceSub, Int.reduceMul, true_imp_iff, forall_const, Nat.mul_one, Int.reduceToNat, Nat.reducePow, Int.reducePow, Bool.true_and, Bool.false_and, Bool.and_false, ←hF]
      refine fin _ ?_
      simp (disch := first | assumption | omega | (simp only [List.length_append, List.length_cons, List.length_nil]; omega)) only [go_sem, reduceCtorEq, Nat.reduceEqDiff, Nat.reduceAdd, Nat.reduceSub, Nat.reduceMul, Nat.reduceLeDiff, Int.reduceLT, Int.reduceLE, Int.reduceEq, ↓reduceIte, Int.reduceNeg, Int.reduceAdd, Int.reduceSub, Int.reduceMul, true_imp_iff, forall_const, Nat.mul_one, Int.reduceToNat, Nat.reducePow, Int.reducePow, Bool.true_and, Bool.false_and, Bool.and_false]
    · simp (disch := first | assumption | omega | (simp only [List.length_append, List.length_cons, List.length_nil]; omega)) only [go_sem, reduceCtorEq, Nat.reduceEqDiff, Nat.reduceAdd, Nat.reduceSub, Nat.reduceMul, Nat.reduceLeDiff, Int.reduceLT, Int.reduceLE, Int.reduceEq, ↓reduceIte, Int.reduceNeg, Int.reduceAdd, Int.reduceSub, Int.reduceMul, true_imp_iff, forall_const, Nat.mul_one, Int.reduceToNat, Nat.reducePow, Int.reducePow, Bool.true_and, Bool.false_and, Bool.and_false, g1, ←hF]
      refine hA.mono ?_
      rintro v σ' ⟨rfl, rfl⟩
      simp (disch := first | assumption | omega | (simp only [List.length_append, List.length_cons, List.length_nil]; omega)) only [go_sem, reduceCtorEq, Nat.reduceEqDiff, Nat.reduceAdd, Nat.reduceSub, Nat.reduceMul, Nat.reduceLeDiff, Int.reduceLT, Int.reduceLE, Int.reduceEq, ↓reduceIte, Int.reduceNeg, Int.reduceAdd, Int.reduceSub, Int.reduceMul, true_imp_iff, forall_const, Nat.mul_one, Int.reduceToNat, Nat.reducePow, Int.reducePow, Bool.true_and, Bool.false_and, Bool.and_false, ←hF]
      refine hs1.use ?_
      simp (disch := first | assumption | omega | (simp only [List.length_append, List.length_cons, List.length_nil]; omega)) only [go_sem, reduceCtorEq, Nat.reduceEqDiff, Nat.reduceAdd, Nat.reduceSub, Nat.reduceMul, Nat.reduceLeDiff, Int.reduceLT, Int.reduceLE, Int.reduceEq, ↓reduceIte, Int.reduceNeg, Int.reduceAdd, Int.reduceSub, Int.reduceMul, true_imp_iff, forall_const, Nat.mul_one, Int.reduceToNat, Nat.reducePow, Int.reducePow, Bool.true_and, Bool.false_and, Bool.and_false, ←hF]
      refine fin _ ?_
      simp (disch := first | assumption | omega | (simp only [List.length_append, List.length_cons, List.length_nil]; omega)) only [go_sem, reduceCtorEq, Nat.reduceEqDiff, Nat.reduceAdd, Nat.reduceSub, Nat.reduceMul, Nat.reduceLeDiff, Int.reduceLT, Int.reduceLE, Int.reduceEq, ↓reduceIte, Int.reduceNeg, Int.reduceAdd, Int.reduceSub, Int.reduceMul, true_imp_iff, forall_const, Nat.mul_one, Int.reduceToNat, Nat.reducePow, Int.reducePow, Bool.true_and, Bool.false_and, Bool.and_false]
end Go.A
