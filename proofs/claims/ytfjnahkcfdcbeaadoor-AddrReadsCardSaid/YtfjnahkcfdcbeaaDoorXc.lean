/- The document's Read, walked. -/
import Derived.Test.YtfjnahkcfdcbeaaDoorXb
namespace Go.A
open Go.Proofs
set_option maxRecDepth 100000
set_option linter.unusedSimpArgs false
set_option linter.unusedVariables false

theorem cut_snoc {l : List UInt8} {i j : Nat} (h : i ≤ j) (hj : j < l.length) : (l.take j).drop i ++ (l.take (j + 1)).drop j = (l.take (j + 1)).drop i := by
  have e : l.take (j + 1) = l.take j ++ (l.take (j + 1)).drop j := by
    rw [List.take_succ_eq_append_getElem hj, List.drop_append_of_le_length (by simp; omega)]
    simp [List.drop_eq_nil_of_le]
  conv => rhs; rw [e]
  rw [List.drop_append_of_le_length (by simp; omega)]

abbrev RQ (σ : ASt) (q : Ref × Int) : APost := RetQ [.c 2 (some 4), .t 3] fun v σ' => v = .tuple [refAV q.1, .int .i64 q.2] ∧ σ' = σ
/-- From the number on. -/
theorem rd3 (l ds : List UInt8) (hd : ∀ c ∈ ds, isD c = true) (hlen : ds.length ≤ 4) (σ : ASt) (b0 b1 : Nat) (hb0 : σ b0 = none) (hb1 : σ b1 = none) (n1 : b0 ≠ b1) (col : Int) (ar ac : Bool) (i3 : Nat) (q : Ref × Int)
    (hq : (if 3000 < valF 0 ds then (Ref.zero, 0) else ((⟨valF 0 ds - 1, col, ar, ac⟩ : Ref), (i3 : Int))) = q)
    (a : AFr) (hf : a 0 = .str l ∧ a 2 = .ptr b0 0 ∧ a 4 = .ptr b1 0 ∧ a 5 = .int .i64 i3 ∧ a 9 = .str ds) :
    ACode.wp Tryd.prog c17_73 (RQ σ q) a
      ((σ.set b0 (some (.obj [.int .i64 0, .int .i64 0, .bool false, .bool false]))).set b1 (some (.obj [.int .i64 0, .int .i64 col, .bool ar, .bool ac]))) := by
  have n2 : b1 ≠ b0 := Ne.symm n1
  have hv := valF_ge ds 0 hd (Int.le_refl _)
  have hp : (10 : Int) ^ ds.length ≤ 10 ^ 4 := by
    have := Nat.pow_le_pow_right (n := 10) (by omega) hlen
    exact_mod_cast this
  obtain ⟨F, hF⟩ : ∃ F, F = ACode.wp Tryd.prog c17_71 := ⟨_, rfl⟩
  obtain ⟨f0, f2, f4, f5, f9⟩ := hf
  simp (disch := first | assumption | omega | (simp only [List.length_append]; omega)) only [go_sem, reduceCtorEq, Nat.reduceEqDiff, Nat.reduceAdd, Nat.reduceSub, Nat.reduceMul, Nat.reduceLeDiff, Int.reduceLT, Int.reduceLE, Int.reduceEq, ↓reduceIte, Int.reduceNeg, Int.reduceAdd, Int.reduceSub, Int.reduceMul, true_imp_iff, forall_const, Nat.mul_one, Int.reduceToNat, Nat.reducePow, Int.reducePow, Bool.true_and, Bool.false_and, Bool.and_false, f0, f2, f4, f5, f9, ←hF]
  refine wp_loop_on (fun (i : Nat × Int) a σ' => i.1 ≤ ds.length ∧ 0 ≤ i.2 ∧ i.2 < 10 ^ i.1 ∧ valF i.2 (ds.drop i.1) = valF 0 ds ∧ (a 0 = .str l ∧ a 2 = .ptr b0 0 ∧ a 4 = .ptr b1 0 ∧ a 5 = .int .i64 i3 ∧ a 9 = .str ds ∧ a 10 = .int .i64 i.2 ∧ a 11 = .int .i64 i.1) ∧
    σ' = (σ.set b0 (some (.obj [.int .i64 0, .int .i64 0, .bool false, .bool false]))).set b1 (some (.obj [.int .i64 0, .int .i64 col, .bool ar, .bool ac])))
    (fun i => ds.length - i.1) (0, 0) ⟨by simp, by simp, by simp, rfl, ?_, rfl⟩ ?_
  · simp (disch := first | assumption | omega | (simp only [List.length_append]; omega)) only [go_sem, reduceCtorEq, Nat.reduceEqDiff, Nat.reduceAdd, Nat.reduceSub, Nat.reduceMul, Nat.reduceLeDiff, Int.reduceLT, Int.reduceLE, Int.reduceEq, ↓reduceIte, Int.reduceNeg, Int.reduceAdd, Int.reduceSub, Int.reduceMul, true_imp_iff, forall_const, Nat.mul_one, Int.reduceToNat, Nat.reducePow, Int.reducePow, Bool.true_and, Bool.false_and, Bool.and_false, f0, f2, f4, f5, f9]
  clear f0 f2 f4 f5 f9
  rintro ⟨i, n⟩ a σ1 ⟨hi, h0, hn, hval, ⟨f0, f2, f4, f5, f9, f10, f11⟩, rfl⟩
  dsimp only at hi h0 hn hval f10 f11
  have hpi : (10 : Int) ^ i ≤ 10 ^ 4 := by
    have := Nat.pow_le_pow_right (n := 10) (by omega) (show i ≤ 4 by omega)
    exact_mod_cast this
  by_cases hlt : i < ds.length
  · have hidx : ds[i]? = some (ds[i]'hlt) := List.getElem?_eq_getElem hlt
    have hdc := hd _ (List.getElem_mem hlt)
    obtain ⟨c, hc⟩ : ∃ c, ds[i]'hlt = c := ⟨_, rfl⟩
    rw [hc] at hidx hdc
    have h48 : 48 ≤ c.toNat ∧ c.toNat ≤ 57 := by simpa [isD] using hdc
    have hlt' : (i : Int) < ds.length := by omega
    rw [List.drop_eq_getElem_cons hlt, hc, valF] at hval
    simp (disch := first | assumption | omega | (simp only [List.length_append]; omega)) only [go_sem, reduceCtorEq, Nat.reduceEqDiff, Nat.reduceAdd, Nat.reduceSub, Nat.reduceMul, Nat.reduceLeDiff, Int.reduceLT, Int.reduceLE, Int.reduceEq, ↓reduceIte, Int.reduceNeg, Int.reduceAdd, Int.reduceSub, Int.reduceMul, true_imp_iff, forall_const, Nat.mul_one, Int.reduceToNat, Nat.reducePow, Int.reducePow, Bool.true_and, Bool.false_and, Bool.and_false, f0, f2, f4, f5, f9, f10, f11, hlt', hidx]
    refine ⟨(i + 1, 10 * n + c.toNat - 48), by dsimp only; omega, by dsimp only; omega, by dsimp only; omega, ?_, hval, ?_, rfl⟩
    · dsimp only
      rw [Int.pow_succ]
      omega
    · simp (disch := first | assumption | omega | (simp only [List.length_append]; omega)) only [go_sem, reduceCtorEq, Nat.reduceEqDiff, Nat.reduceAdd, Nat.reduceSub, Nat.reduceMul, Nat.reduceLeDiff, Int.reduceLT, Int.reduceLE, Int.reduceEq, ↓reduceIte, Int.reduceNeg, Int.reduceAdd, Int.reduceSub, Int.reduceMul, true_imp_iff, forall_const, Nat.mul_one, Int.reduceToNat, Nat.reducePow, Int.reducePow, Bool.true_and, Bool.false_and, Bool.and_false, f0, f2, f4, f5, f9]
  · have hlt' : ¬ (i : Int) < ds.length := by omega
    rw [List.drop_eq_nil_of_le (by omega), valF] at hval
    subst hval
    simp (disch := first | assumption | omega | (simp only [List.length_append]; omega)) only [go_sem, reduceCtorEq, Nat.reduceEqDiff, Nat.reduceAdd, Nat.reduceSub, Nat.reduceMul, Nat.reduceLeDiff, Int.reduceLT, Int.reduceLE, Int.reduceEq, ↓reduceIte, Int.reduceNeg, Int.reduceAdd, Int.reduceSub, Int.reduceMul, true_imp_iff, forall_const, Nat.mul_one, Int.reduceToNat, Nat.reducePow, Int.reducePow, Bool.true_and, Bool.false_and, Bool.and_false, f0, f2, f4, f5, f9, f10, f11, hlt', ←hF]
    rw [hF]
    by_cases h3 : 3000 < valF 0 ds
    · rw [if_pos h3] at hq
      subst hq
      simp (disch := first | assumption | omega | (simp only [List.length_append]; omega)) only [go_sem, reduceCtorEq, Nat.reduceEqDiff, Nat.reduceAdd, Nat.reduceSub, Nat.reduceMul, Nat.reduceLeDiff, Int.reduceLT, Int.reduceLE, Int.reduceEq, ↓reduceIte, Int.reduceNeg, Int.reduceAdd, Int.reduceSub, Int.reduceMul, true_imp_iff, forall_const, Nat.mul_one, Int.reduceToNat, Nat.reducePow, Int.reducePow, Bool.true_and, Bool.false_and, Bool.and_false, f0, f2, f4, f5, f9, f10, f11, h3, n1, n2, refAV]
      exact retC_by (by repeat' (first | exact Drop.refl _ | with_reducible refine Drop.off ?_ (by assumption))) (.refl _) ⟨rfl, rfl⟩
    · rw [if_neg h3] at hq
      subst hq
      simp (disch := first | assumption | omega | (simp only [List.length_append]; omega)) only [go_sem, reduceCtorEq, Nat.reduceEqDiff, Nat.reduceAdd, Nat.reduceSub, Nat.reduceMul, Nat.reduceLeDiff, Int.reduceLT, Int.reduceLE, Int.reduceEq, ↓reduceIte, Int.reduceNeg, Int.reduceAdd, Int.reduceSub, Int.reduceMul, true_imp_iff, forall_const, Nat.mul_one, Int.reduceToNat, Nat.reducePow, Int.reducePow, Bool.true_and, Bool.false_and, Bool.and_false, f0, f2, f4, f5, f9, f10, f11, h3, n1, n2, refAV]
      exact retC_by (by repeat' (first | exact Drop.refl _ | with_reducible refine Drop.off ?_ (by assumption))) (.refl _) ⟨rfl, rfl⟩

set_option maxHeartbeats 1000000 in
/-- From the row's digits on. -/
theorem rd2 (l : List UInt8) (hl : l.length ≤ 9223372036854775000) (σ : ASt) (b0 b1 : Nat) (hb0 : σ b0 = none) (hb1 : σ b1 = none) (n1 : b0 ≠ b1) (i2 : Nat) (hi2 : i2 ≤ l.length) (col : Int) (ar ac : Bool) (q : Ref × Int) (hq : readQ l i2 col ar ac = q)
    (a : AFr) (hf : a 0 = .str l ∧ a 2 = .ptr b0 0 ∧ a 4 = .ptr b1 0 ∧ a 5 = .int .i64 i2) :
    ACode.wp Tryd.prog c17_76 (RQ σ q) a
      ((σ.set b0 (some (.obj [.int .i64 0, .int .i64 0, .bool false, .bool false]))).set b1 (some (.obj [.int .i64 0, .int .i64 col, .bool ar, .bool ac]))) := by
  have n2 : b1 ≠ b0 := Ne.symm n1
  have hk := runL_le isD (l.drop i2)
  have hall := runL_all isD (l.drop i2)
  rw [readQ_by l i2 _ rfl] at hq
  obtain ⟨k, hke⟩ : ∃ k, runL isD (l.drop i2) = k := ⟨_, rfl⟩
  rw [hke] at hq hk hall
  rw [List.length_drop] at hk
  obtain ⟨F, hF⟩ : ∃ F, F = ACode.wp Tryd.prog c17_74 := ⟨_, rfl⟩
  obtain ⟨G, hG⟩ : ∃ F, F = ACode.wp Tryd.prog c17_73 := ⟨_, rfl⟩
  have fin : ∀ a : AFr, (a 0 = .str l ∧ a 2 = .ptr b0 0 ∧ a 4 = .ptr b1 0 ∧ a 5 = .int .i64 (i2 + k : Nat) ∧ a 9 = .str ((l.take (i2 + k)).drop i2)) →
      F (RQ σ q) a ((σ.set b0 (some (.obj [.int .i64 0, .int .i64 0, .bool false, .bool false]))).set b1 (some (.obj [.int .i64 0, .int .i64 col, .bool ar, .bool ac]))) := by
    rintro a ⟨f0, f2, f4, f5, f9⟩
    have eds : (l.take (i2 + k)).drop i2 = (l.drop i2).take k := by rw [List.drop_take]; congr 1; omega
    rw [eds] at f9
    have hdl : ((l.drop i2).take k).length = k := by simp; omega
    obtain ⟨ds, hds⟩ : ∃ ds, (l.drop i2).take k = ds := ⟨_, rfl⟩
    rw [hds] at f9 hdl hall hq
    have g1 := rd3 l ds hall
    rw [hF]
    by_cases hk1 : k < 1
    · rw [if_pos (.inl hk1)] at hq
      subst hq
      have e1 : (ds.length : Int) < 1 := by omega
      simp (disch := first | assumption | omega | (simp only [List.length_append]; omega)) only [go_sem, reduceCtorEq, Nat.reduceEqDiff, Nat.reduceAdd, Nat.reduceSub, Nat.reduceMul, Nat.reduceLeDiff, Int.reduceLT, Int.reduceLE, Int.reduceEq, ↓reduceIte, Int.reduceNeg, Int.reduceAdd, Int.reduceSub, Int.reduceMul, true_imp_iff, forall_const, Nat.mul_one, Int.reduceToNat, Nat.reducePow, Int.reducePow, Bool.true_and, Bool.false_and, Bool.and_false, f0, f2, f4, f5, f9, e1, n1, n2, refAV, ←hG]
      exact retC_by (by repeat' (first | exact Drop.refl _ | with_reducible refine Drop.off ?_ (by assumption))) (.refl _) ⟨rfl, rfl⟩
    have e1 : ¬ (ds.length : Int) < 1 := by omega
    by_cases hk4 : 4 < k
    · rw [if_pos (.inr (.inl hk4))] at hq
      subst hq
      have e2 : (4 : Int) < ds.length := by omega
      simp (disch := first | assumption | omega | (simp only [List.length_append]; omega)) only [go_sem, reduceCtorEq, Nat.reduceEqDiff, Nat.reduceAdd, Nat.reduceSub, Nat.reduceMul, Nat.reduceLeDiff, Int.reduceLT, Int.reduceLE, Int.reduceEq, ↓reduceIte, Int.reduceNeg, Int.reduceAdd, Int.reduceSub, Int.reduceMul, true_imp_iff, forall_const, Nat.mul_one, Int.reduceToNat, Nat.reducePow, Int.reducePow, Bool.true_and, Bool.false_and, Bool.and_false, f0, f2, f4, f5, f9, e1, e2, n1, n2, refAV, ←hG]
      exact retC_by (by repeat' (first | exact Drop.refl _ | with_reducible refine Drop.off ?_ (by assumption))) (.refl _) ⟨rfl, rfl⟩
    have e2 : ¬ (4 : Int) < ds.length := by omega
    have hidx : ds[0]? = some (ds[0]'(by omega)) := List.getElem?_eq_getElem (by omega)
    obtain ⟨c, hc⟩ : ∃ c, ds[0]'(by omega) = c := ⟨_, rfl⟩
    rw [hc] at hidx
    have hat : atP l i2 = c.toNat := by
      have h1 : (l.drop i2)[0]? = some c := by
        rw [← hds, List.getElem?_take] at hidx
        rw [if_pos (by omega)] at hidx
        exact hidx
      rw [atP_drop]
      unfold atP
      rw [h1]
    rw [hat] at hq
    by_cases h48 : (c.toNat : Int) = 48
    · rw [if_pos (.inr (.inr (.inl h48)))] at hq
      subst hq
      simp (disch := first | assumption | omega | (simp only [List.length_append]; omega)) only [go_sem, reduceCtorEq, Nat.reduceEqDiff, Nat.reduceAdd, Nat.reduceSub, Nat.reduceMul, Nat.reduceLeDiff, Int.reduceLT, Int.reduceLE, Int.reduceEq, ↓reduceIte, Int.reduceNeg, Int.reduceAdd, Int.reduceSub, Int.reduceMul, true_imp_iff, forall_const, Nat.mul_one, Int.reduceToNat, Nat.reducePow, Int.reducePow, Bool.true_and, Bool.false_and, Bool.and_false, f0, f2, f4, f5, f9, e1, e2, hidx, h48, n1, n2, refAV, ←hG]
      exact retC_by (by repeat' (first | exact Drop.refl _ | with_reducible refine Drop.off ?_ (by assumption))) (.refl _) ⟨rfl, rfl⟩
    by_cases hlt : i2 + k < l.length
    · have hlt' : ((i2 + k : Nat) : Int) < l.length := by omega
      have hidx2 : l[i2 + k]? = some (l[i2 + k]'hlt) := List.getElem?_eq_getElem hlt
      obtain ⟨d, hdd⟩ : ∃ d, l[i2 + k]'hlt = d := ⟨_, rfl⟩
      rw [hdd] at hidx2
      have hat2 : atP l (i2 + k) = d.toNat := by unfold atP; rw [hidx2]
      rw [hat2] at hq
      obtain ⟨p, hp⟩ : ∃ p, i2 + k = p := ⟨_, rfl⟩
      rw [hp] at f5 hlt' hidx2 hq
      simp (disch := first | assumption | omega | (simp only [List.length_append]; omega)) only [go_sem, reduceCtorEq, Nat.reduceEqDiff, Nat.reduceAdd, Nat.reduceSub, Nat.reduceMul, Nat.reduceLeDiff, Int.reduceLT, Int.reduceLE, Int.reduceEq, ↓reduceIte, Int.reduceNeg, Int.reduceAdd, Int.reduceSub, Int.reduceMul, true_imp_iff, forall_const, Nat.mul_one, Int.reduceToNat, Nat.reducePow, Int.reducePow, Bool.true_and, Bool.false_and, Bool.and_false, f0, f2, f4, f5, f9, e1, e2, hidx, h48, hlt', hidx2, n1, n2, refAV, ←hG]
      refine (risLetter_ok d.toNat).use ?_
      by_cases hL : 0 < letterP d.toNat
      · rw [if_pos (.inr (.inr (.inr (.inl hL))))] at hq
        subst hq
        simp (disch := first | assumption | omega | (simp only [List.length_append]; omega)) only [go_sem, reduceCtorEq, Nat.reduceEqDiff, Nat.reduceAdd, Nat.reduceSub, Nat.reduceMul, Nat.reduceLeDiff, Int.reduceLT, Int.reduceLE, Int.reduceEq, ↓reduceIte, Int.reduceNeg, Int.reduceAdd, Int.reduceSub, Int.reduceMul, true_imp_iff, forall_const, Nat.mul_one, Int.reduceToNat, Nat.reducePow, Int.reducePow, Bool.true_and, Bool.false_and, Bool.and_false, f0, f2, f4, f5, f9, e1, e2, hidx, h48, hlt', hidx2, hL, n1, n2, refAV, ←hG]
        exact retC_by (by repeat' (first | exact Drop.refl _ | with_reducible refine Drop.off ?_ (by assumption))) (.refl _) ⟨rfl, rfl⟩
      by_cases h95 : (d.toNat : Int) = 95
      · rw [if_pos (.inr (.inr (.inr (.inr h95))))] at hq
        subst hq
        have hL2 : ¬ (0 : Int) < letterP 95 := by decide
        simp (disch := first | assumption | omega | (simp only [List.length_append]; omega)) only [go_sem, reduceCtorEq, Nat.reduceEqDiff, Nat.reduceAdd, Nat.reduceSub, Nat.reduceMul, Nat.reduceLeDiff, Int.reduceLT, Int.reduceLE, Int.reduceEq, ↓reduceIte, Int.reduceNeg, Int.reduceAdd, Int.reduceSub, Int.reduceMul, true_imp_iff, forall_const, Nat.mul_one, Int.reduceToNat, Nat.reducePow, Int.reducePow, Bool.true_and, Bool.false_and, Bool.and_false, f0, f2, f4, f5, f9, e1, e2, hidx, h48, hlt', hidx2, hL, hL2, h95, n1, n2, refAV, ←hG]
        exact retC_by (by repeat' (first | exact Drop.refl _ | with_reducible refine Drop.off ?_ (by assumption))) (.refl _) ⟨rfl, rfl⟩
      rw [if_neg (by omega)] at hq
      simp (disch := first | assumption | omega | (simp only [List.length_append]; omega)) only [go_sem, reduceCtorEq, Nat.reduceEqDiff, Nat.reduceAdd, Nat.reduceSub, Nat.reduceMul, Nat.reduceLeDiff, Int.reduceLT, Int.reduceLE, Int.reduceEq, ↓reduceIte, Int.reduceNeg, Int.reduceAdd, Int.reduceSub, Int.reduceMul, true_imp_iff, forall_const, Nat.mul_one, Int.reduceToNat, Nat.reducePow, Int.reducePow, Bool.true_and, Bool.false_and, Bool.and_false, f0, f2, f4, f5, f9, e1, e2, hidx, h48, hlt', hidx2, hL, h95, n1, n2, refAV, ←hG]
      rw [hG]
      refine g1 (by omega) σ b0 b1 hb0 hb1 n1 col ar ac p q hq _ ?_
      simp (disch := first | assumption | omega | (simp only [List.length_append]; omega)) only [go_sem, reduceCtorEq, Nat.reduceEqDiff, Nat.reduceAdd, Nat.reduceSub, Nat.reduceMul, Nat.reduceLeDiff, Int.reduceLT, Int.reduceLE, Int.reduceEq, ↓reduceIte, Int.reduceNeg, Int.reduceAdd, Int.reduceSub, Int.reduceMul, true_imp_iff, forall_const, Nat.mul_one, Int.reduceToNat, Nat.reducePow, Int.reducePow, Bool.true_and, Bool.false_and, Bool.and_false, f0, f2, f4, f5, f9]
    · have hlt' : ¬ ((i2 + k : Nat) : Int) < l.length := by omega
      have hat2 : atP l (i2 + k) = 0 := by unfold atP; rw [List.getElem?_eq_none (by omega)]
      rw [hat2] at hq
      rw [if_neg (by rintro (h | h | h | h | h); omega; omega; omega; revert h; decide; omega)] at hq
      obtain ⟨p, hp⟩ : ∃ p, i2 + k = p := ⟨_, rfl⟩
      rw [hp] at f5 hlt' hq
      simp (disch := first | assumption | omega | (simp only [List.length_append]; omega)) only [go_sem, reduceCtorEq, Nat.reduceEqDiff, Nat.reduceAdd, Nat.reduceSub, Nat.reduceMul, Nat.reduceLeDiff, Int.reduceLT, Int.reduceLE, Int.reduceEq, ↓reduceIte, Int.reduceNeg, Int.reduceAdd, Int.reduceSub, Int.reduceMul, true_imp_iff, forall_const, Nat.mul_one, Int.reduceToNat, Nat.reducePow, Int.reducePow, Bool.true_and, Bool.false_and, Bool.and_false, f0, f2, f4, f5, f9, e1, e2, hidx, h48, hlt', n1, n2, refAV, ←hG]
      rw [hG]
      refine g1 (by omega) σ b0 b1 hb0 hb1 n1 col ar ac p q hq _ ?_
      simp (disch := first | assumption | omega | (simp only [List.length_append]; omega)) only [go_sem, reduceCtorEq, Nat.reduceEqDiff, Nat.reduceAdd, Nat.reduceSub, Nat.reduceMul, Nat.reduceLeDiff, Int.reduceLT, Int.reduceLE, Int.reduceEq, ↓reduceIte, Int.reduceNeg, Int.reduceAdd, Int.reduceSub, Int.reduceMul, true_imp_iff, forall_const, Nat.mul_one, Int.reduceToNat, Nat.reducePow, Int.reducePow, Bool.true_and, Bool.false_and, Bool.and_false, f0, f2, f4, f5, f9]
  obtain ⟨f0, f2, f4, f5⟩ := hf
  simp (disch := first | assumption | omega | (simp only [List.length_append]; omega)) only [go_sem, reduceCtorEq, Nat.reduceEqDiff, Nat.reduceAdd, Nat.reduceSub, Nat.reduceMul, Nat.reduceLeDiff, Int.reduceLT, Int.reduceLE, Int.reduceEq, ↓reduceIte, Int.reduceNeg, Int.reduceAdd, Int.reduceSub, Int.reduceMul, true_imp_iff, forall_const, Nat.mul_one, Int.reduceToNat, Nat.reducePow, Int.reducePow, Bool.true_and, Bool.false_and, Bool.and_false, f0, f2, f4, f5, ←hF]
  refine wp_loop_on (fun (i : Nat) a σ' => i2 ≤ i ∧ i ≤ l.length ∧ i2 + k = i + runL isD (l.drop i) ∧ (a 0 = .str l ∧ a 2 = .ptr b0 0 ∧ a 4 = .ptr b1 0 ∧ a 5 = .int .i64 i ∧ a 9 = .str ((l.take i).drop i2)) ∧
    σ' = (σ.set b0 (some (.obj [.int .i64 0, .int .i64 0, .bool false, .bool false]))).set b1 (some (.obj [.int .i64 0, .int .i64 col, .bool ar, .bool ac])))
    (fun i => l.length - i) i2 ⟨Nat.le_refl _, hi2, by rw [hke], ?_, rfl⟩ ?_
  · have e : (l.take i2).drop i2 = [] := List.drop_eq_nil_of_le (by simp; omega)
    rw [e]
    simp (disch := first | assumption | omega | (simp only [List.length_append]; omega)) only [go_sem, reduceCtorEq, Nat.reduceEqDiff, Nat.reduceAdd, Nat.reduceSub, Nat.reduceMul, Nat.reduceLeDiff, Int.reduceLT, Int.reduceLE, Int.reduceEq, ↓reduceIte, Int.reduceNeg, Int.reduceAdd, Int.reduceSub, Int.reduceMul, true_imp_iff, forall_const, Nat.mul_one, Int.reduceToNat, Nat.reducePow, Int.reducePow, Bool.true_and, Bool.false_and, Bool.and_false, f0, f2, f4, f5]
  clear f0 f2 f4 f5
  rintro i a σ1 ⟨hi, hil, hrun, ⟨f0, f2, f4, f5, f9⟩, rfl⟩
  by_cases hlt : i < l.length
  · have hidx : l[i]? = some (l[i]'hlt) := List.getElem?_eq_getElem hlt
    obtain ⟨c, hc⟩ : ∃ c, l[i]'hlt = c := ⟨_, rfl⟩
    rw [hc] at hidx
    have hcb : (c.toNat : Int) ≤ 255 := by have := c.toNat_lt; omega
    have hlt' : (i : Int) < l.length := by omega
    rw [List.drop_eq_getElem_cons hlt, hc, runL] at hrun
    by_cases hd : 48 ≤ (c.toNat : Int) ∧ (c.toNat : Int) ≤ 57
    · have hD : isD c = true := by unfold isD; simp; omega
      rw [if_pos hD] at hrun
      have hd1 := hd.1
      have hd2 := hd.2
      have e1 : ((i : Int) + 1).toNat = i + 1 := by omega
      have e2 : ((i : Int) + 1) ≤ l.length := by omega
      have e3 := cut_snoc hi hlt
      have hcl : ((l.take i).drop i2).length + ((l.take (i + 1)).drop i).length ≤ 9223372036854775807 := by simp; omega
      simp (disch := first | assumption | omega | (simp only [List.length_append]; omega)) only [go_sem, reduceCtorEq, Nat.reduceEqDiff, Nat.reduceAdd, Nat.reduceSub, Nat.reduceMul, Nat.reduceLeDiff, Int.reduceLT, Int.reduceLE, Int.reduceEq, ↓reduceIte, Int.reduceNeg, Int.reduceAdd, Int.reduceSub, Int.reduceMul, true_imp_iff, forall_const, Nat.mul_one, Int.reduceToNat, Nat.reducePow, Int.reducePow, Bool.true_and, Bool.false_and, Bool.and_false, f0, f2, f4, f5, f9, hlt', hidx, hd1, hd2, e1, e2, e3, hcl]
      refine ⟨i + 1, by omega, by omega, by omega, by omega, ?_, rfl⟩
      simp (disch := first | assumption | omega | (simp only [List.length_append]; omega)) only [go_sem, reduceCtorEq, Nat.reduceEqDiff, Nat.reduceAdd, Nat.reduceSub, Nat.reduceMul, Nat.reduceLeDiff, Int.reduceLT, Int.reduceLE, Int.reduceEq, ↓reduceIte, Int.reduceNeg, Int.reduceAdd, Int.reduceSub, Int.reduceMul, true_imp_iff, forall_const, Nat.mul_one, Int.reduceToNat, Nat.reducePow, Int.reducePow, Bool.true_and, Bool.false_and, Bool.and_false, f0, f2, f4, f5, f9]
    · have hD : ¬ isD c = true := by unfold isD; simp; omega
      rw [if_neg hD] at hrun
      repeat' (first | (simp (disch := first | assumption | omega | (simp only [List.length_append]; omega)) only [go_sem, reduceCtorEq, Nat.reduceEqDiff, Nat.reduceAdd, Nat.reduceSub, Nat.reduceMul, Nat.reduceLeDiff, Int.reduceLT, Int.reduceLE, Int.reduceEq, ↓reduceIte, Int.reduceNeg, Int.reduceAdd, Int.reduceSub, Int.reduceMul, true_imp_iff, forall_const, Nat.mul_one, Int.reduceToNat, Nat.reducePow, Int.reducePow, Bool.true_and, Bool.false_and, Bool.and_false, f0, f2, f4, f5, f9, hlt', hidx, ←hF]) | with_reducible refine gC_d (fun h => ?_) (fun h => ?_) | with_reducible refine gC_dn (fun h => ?_) (fun h => ?_) | with_reducible refine condC_d (fun h => ?_) (fun h => ?_) | with_reducible refine condC_n (fun h => ?_) (fun h => ?_) | with_reducible refine condC_b (fun h => ?_) (fun h => ?_) | with_reducible refine boxC_by ?_ fun b hb => ?_)
      all_goals first | (exfalso; omega) | skip
      all_goals (obtain rfl : i = i2 + k := by omega)
      all_goals refine fin _ ?_
      all_goals simp (disch := first | assumption | omega | (simp only [List.length_append]; omega)) only [go_sem, reduceCtorEq, Nat.reduceEqDiff, Nat.reduceAdd, Nat.reduceSub, Nat.reduceMul, Nat.reduceLeDiff, Int.reduceLT, Int.reduceLE, Int.reduceEq, ↓reduceIte, Int.reduceNeg, Int.reduceAdd, Int.reduceSub, Int.reduceMul, true_imp_iff, forall_const, Nat.mul_one, Int.reduceToNat, Nat.reducePow, Int.reducePow, Bool.true_and, Bool.false_and, Bool.and_false, f0, f2, f4, f5, f9]
  · have e : l.drop i = [] := List.drop_eq_nil_of_le (by omega)
    have hlt' : ¬ (i : Int) < l.length := by omega
    rw [e, runL] at hrun
    simp (disch := first | assumption | omega | (simp only [List.length_append]; omega)) only [go_sem, reduceCtorEq, Nat.reduceEqDiff, Nat.reduceAdd, Nat.reduceSub, Nat.reduceMul, Nat.reduceLeDiff, Int.reduceLT, Int.reduceLE, Int.reduceEq, ↓reduceIte, Int.reduceNeg, Int.reduceAdd, Int.reduceSub, Int.reduceMul, true_imp_iff, forall_const, Nat.mul_one, Int.reduceToNat, Nat.reducePow, Int.reducePow, Bool.true_and, Bool.false_and, Bool.and_false, f0, f2, f4, f5, f9, hlt', ←hF]
    obtain rfl : i = i2 + k := by omega
    refine fin _ ?_
    simp (disch := first | assumption | omega | (simp only [List.length_append]; omega)) only [go_sem, reduceCtorEq, Nat.reduceEqDiff, Nat.reduceAdd, Nat.reduceSub, Nat.reduceMul, Nat.reduceLeDiff, Int.reduceLT, Int.reduceLE, Int.reduceEq, ↓reduceIte, Int.reduceNeg, Int.reduceAdd, Int.reduceSub, Int.reduceMul, true_imp_iff, forall_const, Nat.mul_one, Int.reduceToNat, Nat.reducePow, Int.reducePow, Bool.true_and, Bool.false_and, Bool.and_false, f0, f2, f4, f5, f9]

set_option maxHeartbeats 1000000 in
/-- From the letters on. -/
theorem rd1 (l : List UInt8) (hl : l.length ≤ 1000000000) (σ : ASt) (b0 b1 : Nat) (hb0 : σ b0 = none) (hb1 : σ b1 = none) (n1 : b0 ≠ b1) (i0 : Nat) (hi0 : i0 ≤ l.length) (ac : Bool) (q : Ref × Int) (hq : readR l i0 ac = q)
    (a : AFr) (hf : a 0 = .str l ∧ a 2 = .ptr b0 0 ∧ a 4 = .ptr b1 0 ∧ a 5 = .int .i64 i0) :
    ACode.wp Tryd.prog c17_82 (RQ σ q) a
      ((σ.set b0 (some (.obj [.int .i64 0, .int .i64 0, .bool false, .bool false]))).set b1 (some (.obj [.int .i64 0, .int .i64 0, .bool false, .bool ac]))) := by
  have n2 : b1 ≠ b0 := Ne.symm n1
  have hk := runL_le isL (l.drop i0)
  unfold readR at hq
  obtain ⟨k, hke⟩ : ∃ k, runL isL (l.drop i0) = k := ⟨_, rfl⟩
  rw [hke] at hq hk
  rw [List.length_drop] at hk
  obtain ⟨F, hF⟩ : ∃ F, F = ACode.wp Tryd.prog c17_80 := ⟨_, rfl⟩
  obtain ⟨G, hG⟩ : ∃ F, F = ACode.wp Tryd.prog c17_77 := ⟨_, rfl⟩
  obtain ⟨H, hH⟩ : ∃ F, F = ACode.wp Tryd.prog c17_76 := ⟨_, rfl⟩
  have fin : ∀ a : AFr, (a 0 = .str l ∧ a 2 = .ptr b0 0 ∧ a 4 = .ptr b1 0 ∧ a 5 = .int .i64 (i0 + k : Nat) ∧ a 6 = .str ((l.take (i0 + k)).drop i0)) →
      F (RQ σ q) a ((σ.set b0 (some (.obj [.int .i64 0, .int .i64 0, .bool false, .bool false]))).set b1 (some (.obj [.int .i64 0, .int .i64 0, .bool false, .bool ac]))) := by
    rintro a ⟨f0, f2, f4, f5, f6⟩
    obtain ⟨p, hp⟩ : ∃ p, i0 + k = p := ⟨_, rfl⟩
    rw [hp] at f5 f6 hq
    have hpl : p ≤ l.length := by omega
    have hcol := rcolumn_ok (l := (l.take p).drop i0) (by simp; omega)
    rw [← column_eq] at hcol
    obtain ⟨⟨col, ok⟩, hC⟩ : ∃ C, columnP ((l.take p).drop i0) = C := ⟨_, rfl⟩
    rw [hC] at hq hcol
    rw [hF]
    simp (disch := first | assumption | omega | (simp only [List.length_append]; omega)) only [go_sem, reduceCtorEq, Nat.reduceEqDiff, Nat.reduceAdd, Nat.reduceSub, Nat.reduceMul, Nat.reduceLeDiff, Int.reduceLT, Int.reduceLE, Int.reduceEq, ↓reduceIte, Int.reduceNeg, Int.reduceAdd, Int.reduceSub, Int.reduceMul, true_imp_iff, forall_const, Nat.mul_one, Int.reduceToNat, Nat.reducePow, Int.reducePow, Bool.true_and, Bool.false_and, Bool.and_false, f0, f2, f4, f5, f6, ←hG]
    refine hcol.use ?_
    cases ok
    · rw [if_pos rfl] at hq
      subst hq
      simp (disch := first | assumption | omega | (simp only [List.length_append]; omega)) only [go_sem, reduceCtorEq, Nat.reduceEqDiff, Nat.reduceAdd, Nat.reduceSub, Nat.reduceMul, Nat.reduceLeDiff, Int.reduceLT, Int.reduceLE, Int.reduceEq, ↓reduceIte, Int.reduceNeg, Int.reduceAdd, Int.reduceSub, Int.reduceMul, true_imp_iff, forall_const, Nat.mul_one, Int.reduceToNat, Nat.reducePow, Int.reducePow, Bool.true_and, Bool.false_and, Bool.and_false, f0, f2, f4, f5, n1, n2, refAV, ←hG]
      exact retC_by (by repeat' (first | exact Drop.refl _ | with_reducible refine Drop.off ?_ (by assumption))) (.refl _) ⟨rfl, rfl⟩
    · rw [if_neg (by simp)] at hq
      simp (disch := first | assumption | omega | (simp only [List.length_append]; omega)) only [go_sem, reduceCtorEq, Nat.reduceEqDiff, Nat.reduceAdd, Nat.reduceSub, Nat.reduceMul, Nat.reduceLeDiff, Int.reduceLT, Int.reduceLE, Int.reduceEq, ↓reduceIte, Int.reduceNeg, Int.reduceAdd, Int.reduceSub, Int.reduceMul, true_imp_iff, forall_const, Nat.mul_one, Int.reduceToNat, Nat.reducePow, Int.reducePow, Bool.true_and, Bool.false_and, Bool.and_false, f0, f2, f4, f5, n1, n2, ASt.set_set, ←hG]
      rw [hG, c17_77_wp, wp_seq', ← hH]
      by_cases hlt : p < l.length
      · have hidx : l[p]? = some (l[p]'hlt) := List.getElem?_eq_getElem hlt
        obtain ⟨c, hc⟩ : ∃ c, l[p]'hlt = c := ⟨_, rfl⟩
        rw [hc] at hidx
        have hlt' : (p : Int) < l.length := by omega
        have hat : atP l p = c.toNat := by unfold atP; rw [hidx]
        rw [hat] at hq
        by_cases h36 : (c.toNat : Int) = 36
        · rw [if_pos h36] at hq
          simp (disch := first | assumption | omega | (simp only [List.length_append]; omega)) only [go_sem, reduceCtorEq, Nat.reduceEqDiff, Nat.reduceAdd, Nat.reduceSub, Nat.reduceMul, Nat.reduceLeDiff, Int.reduceLT, Int.reduceLE, Int.reduceEq, ↓reduceIte, Int.reduceNeg, Int.reduceAdd, Int.reduceSub, Int.reduceMul, true_imp_iff, forall_const, Nat.mul_one, Int.reduceToNat, Nat.reducePow, Int.reducePow, Bool.true_and, Bool.false_and, Bool.and_false, f0, f2, f4, f5, n1, n2, hlt', hidx, h36, ASt.set_set]
          rw [hH]
          refine rd2 l (by omega) σ b0 b1 hb0 hb1 n1 (p + 1) (by omega) col true ac q hq _ ?_
          simp (disch := first | assumption | omega | (simp only [List.length_append]; omega)) only [go_sem, reduceCtorEq, Nat.reduceEqDiff, Nat.reduceAdd, Nat.reduceSub, Nat.reduceMul, Nat.reduceLeDiff, Int.reduceLT, Int.reduceLE, Int.reduceEq, ↓reduceIte, Int.reduceNeg, Int.reduceAdd, Int.reduceSub, Int.reduceMul, true_imp_iff, forall_const, Nat.mul_one, Int.reduceToNat, Nat.reducePow, Int.reducePow, Bool.true_and, Bool.false_and, Bool.and_false, f0, f2, f4, f5]
        · rw [if_neg h36] at hq
          simp (disch := first | assumption | omega | (simp only [List.length_append]; omega)) only [go_sem, reduceCtorEq, Nat.reduceEqDiff, Nat.reduceAdd, Nat.reduceSub, Nat.reduceMul, Nat.reduceLeDiff, Int.reduceLT, Int.reduceLE, Int.reduceEq, ↓reduceIte, Int.reduceNeg, Int.reduceAdd, Int.reduceSub, Int.reduceMul, true_imp_iff, forall_const, Nat.mul_one, Int.reduceToNat, Nat.reducePow, Int.reducePow, Bool.true_and, Bool.false_and, Bool.and_false, f0, f2, f4, f5, n1, n2, hlt', hidx, h36, ASt.set_set]
          rw [hH]
          refine rd2 l (by omega) σ b0 b1 hb0 hb1 n1 p (by omega) col false ac q hq _ ?_
          simp (disch := first | assumption | omega | (simp only [List.length_append]; omega)) only [go_sem, reduceCtorEq, Nat.reduceEqDiff, Nat.reduceAdd, Nat.reduceSub, Nat.reduceMul, Nat.reduceLeDiff, Int.reduceLT, Int.reduceLE, Int.reduceEq, ↓reduceIte, Int.reduceNeg, Int.reduceAdd, Int.reduceSub, Int.reduceMul, true_imp_iff, forall_const, Nat.mul_one, Int.reduceToNat, Nat.reducePow, Int.reducePow, Bool.true_and, Bool.false_and, Bool.and_false, f0, f2, f4, f5]
      · have hlt' : ¬ (p : Int) < l.length := by omega
        have hat : atP l p = 0 := by unfold atP; rw [List.getElem?_eq_none (by omega)]
        rw [hat, if_neg (by omega)] at hq
        simp (disch := first | assumption | omega | (simp only [List.length_append]; omega)) only [go_sem, reduceCtorEq, Nat.reduceEqDiff, Nat.reduceAdd, Nat.reduceSub, Nat.reduceMul, Nat.reduceLeDiff, Int.reduceLT, Int.reduceLE, Int.reduceEq, ↓reduceIte, Int.reduceNeg, Int.reduceAdd, Int.reduceSub, Int.reduceMul, true_imp_iff, forall_const, Nat.mul_one, Int.reduceToNat, Nat.reducePow, Int.reducePow, Bool.true_and, Bool.false_and, Bool.and_false, f0, f2, f4, f5, n1, n2, hlt', ASt.set_set]
        rw [hH]
        refine rd2 l (by omega) σ b0 b1 hb0 hb1 n1 p (by omega) col false ac q hq _ ?_
        simp (disch := first | assumption | omega | (simp only [List.length_append]; omega)) only [go_sem, reduceCtorEq, Nat.reduceEqDiff, Nat.reduceAdd, Nat.reduceSub, Nat.reduceMul, Nat.reduceLeDiff, Int.reduceLT, Int.reduceLE, Int.reduceEq, ↓reduceIte, Int.reduceNeg, Int.reduceAdd, Int.reduceSub, Int.reduceMul, true_imp_iff, forall_const, Nat.mul_one, Int.reduceToNat, Nat.reducePow, Int.reducePow, Bool.true_and, Bool.false_and, Bool.and_false, f0, f2, f4, f5]
  obtain ⟨f0, f2, f4, f5⟩ := hf
  simp (disch := first | assumption | omega | (simp only [List.length_append]; omega)) only [go_sem, reduceCtorEq, Nat.reduceEqDiff, Nat.reduceAdd, Nat.reduceSub, Nat.reduceMul, Nat.reduceLeDiff, Int.reduceLT, Int.reduceLE, Int.reduceEq, ↓reduceIte, Int.reduceNeg, Int.reduceAdd, Int.reduceSub, Int.reduceMul, true_imp_iff, forall_const, Nat.mul_one, Int.reduceToNat, Nat.reducePow, Int.reducePow, Bool.true_and, Bool.false_and, Bool.and_false, f0, f2, f4, f5, ←hF]
  refine wp_loop_on (fun (i : Nat) a σ' => i0 ≤ i ∧ i ≤ l.length ∧ i0 + k = i + runL isL (l.drop i) ∧ (a 0 = .str l ∧ a 2 = .ptr b0 0 ∧ a 4 = .ptr b1 0 ∧ a 5 = .int .i64 i ∧ a 6 = .str ((l.take i).drop i0)) ∧
    σ' = (σ.set b0 (some (.obj [.int .i64 0, .int .i64 0, .bool false, .bool false]))).set b1 (some (.obj [.int .i64 0, .int .i64 0, .bool false, .bool ac])))
    (fun i => l.length - i) i0 ⟨Nat.le_refl _, hi0, by rw [hke], ?_, rfl⟩ ?_
  · have e : (l.take i0).drop i0 = [] := List.drop_eq_nil_of_le (by simp; omega)
    rw [e]
    simp (disch := first | assumption | omega | (simp only [List.length_append]; omega)) only [go_sem, reduceCtorEq, Nat.reduceEqDiff, Nat.reduceAdd, Nat.reduceSub, Nat.reduceMul, Nat.reduceLeDiff, Int.reduceLT, Int.reduceLE, Int.reduceEq, ↓reduceIte, Int.reduceNeg, Int.reduceAdd, Int.reduceSub, Int.reduceMul, true_imp_iff, forall_const, Nat.mul_one, Int.reduceToNat, Nat.reducePow, Int.reducePow, Bool.true_and, Bool.false_and, Bool.and_false, f0, f2, f4, f5]
  clear f0 f2 f4 f5
  rintro i a σ1 ⟨hi, hil, hrun, ⟨f0, f2, f4, f5, f6⟩, rfl⟩
  by_cases hlt : i < l.length
  · have hidx : l[i]? = some (l[i]'hlt) := List.getElem?_eq_getElem hlt
    obtain ⟨c, hc⟩ : ∃ c, l[i]'hlt = c := ⟨_, rfl⟩
    rw [hc] at hidx
    have hlt' : (i : Int) < l.length := by omega
    rw [List.drop_eq_getElem_cons hlt, hc, runL] at hrun
    simp (disch := first | assumption | omega | (simp only [List.length_append]; omega)) only [go_sem, reduceCtorEq, Nat.reduceEqDiff, Nat.reduceAdd, Nat.reduceSub, Nat.reduceMul, Nat.reduceLeDiff, Int.reduceLT, Int.reduceLE, Int.reduceEq, ↓reduceIte, Int.reduceNeg, Int.reduceAdd, Int.reduceSub, Int.reduceMul, true_imp_iff, forall_const, Nat.mul_one, Int.reduceToNat, Nat.reducePow, Int.reducePow, Bool.true_and, Bool.false_and, Bool.and_false, f0, f2, f4, f5, f6, hlt', hidx, ←hF]
    refine (risLetter_ok c.toNat).use ?_
    by_cases hL : 0 < letterP c.toNat
    · rw [if_pos (by unfold isL; simpa using hL)] at hrun
      have e1 : ((i : Int) + 1).toNat = i + 1 := by omega
      have e2 : ((i : Int) + 1) ≤ l.length := by omega
      have e3 := cut_snoc hi hlt
      have hcl : ((l.take i).drop i0).length + ((l.take (i + 1)).drop i).length ≤ 9223372036854775807 := by simp; omega
      simp (disch := first | assumption | omega | (simp only [List.length_append]; omega)) only [go_sem, reduceCtorEq, Nat.reduceEqDiff, Nat.reduceAdd, Nat.reduceSub, Nat.reduceMul, Nat.reduceLeDiff, Int.reduceLT, Int.reduceLE, Int.reduceEq, ↓reduceIte, Int.reduceNeg, Int.reduceAdd, Int.reduceSub, Int.reduceMul, true_imp_iff, forall_const, Nat.mul_one, Int.reduceToNat, Nat.reducePow, Int.reducePow, Bool.true_and, Bool.false_and, Bool.and_false, f0, f2, f4, f5, f6, hL, e1, e2, e3, hcl]
      refine ⟨i + 1, by omega, by omega, by omega, by omega, ?_, rfl⟩
      simp (disch := first | assumption | omega | (simp only [List.length_append]; omega)) only [go_sem, reduceCtorEq, Nat.reduceEqDiff, Nat.reduceAdd, Nat.reduceSub, Nat.reduceMul, Nat.reduceLeDiff, Int.reduceLT, Int.reduceLE, Int.reduceEq, ↓reduceIte, Int.reduceNeg, Int.reduceAdd, Int.reduceSub, Int.reduceMul, true_imp_iff, forall_const, Nat.mul_one, Int.reduceToNat, Nat.reducePow, Int.reducePow, Bool.true_and, Bool.false_and, Bool.and_false, f0, f2, f4, f5, f6]
    · rw [if_neg (by unfold isL; simpa using hL)] at hrun
      simp (disch := first | assumption | omega | (simp only [List.length_append]; omega)) only [go_sem, reduceCtorEq, Nat.reduceEqDiff, Nat.reduceAdd, Nat.reduceSub, Nat.reduceMul, Nat.reduceLeDiff, Int.reduceLT, Int.reduceLE, Int.reduceEq, ↓reduceIte, Int.reduceNeg, Int.reduceAdd, Int.reduceSub, Int.reduceMul, true_imp_iff, forall_const, Nat.mul_one, Int.reduceToNat, Nat.reducePow, Int.reducePow, Bool.true_and, Bool.false_and, Bool.and_false, f0, f2, f4, f5, f6, hL, ←hF]
      obtain rfl : i = i0 + k := by omega
      refine fin _ ?_
      simp (disch := first | assumption | omega | (simp only [List.length_append]; omega)) only [go_sem, reduceCtorEq, Nat.reduceEqDiff, Nat.reduceAdd, Nat.reduceSub, Nat.reduceMul, Nat.reduceLeDiff, Int.reduceLT, Int.reduceLE, Int.reduceEq, ↓reduceIte, Int.reduceNeg, Int.reduceAdd, Int.reduceSub, Int.reduceMul, true_imp_iff, forall_const, Nat.mul_one, Int.reduceToNat, Nat.reducePow, Int.reducePow, Bool.true_and, Bool.false_and, Bool.and_false, f0, f2, f4, f5, f6]
  · have e : l.drop i = [] := List.drop_eq_nil_of_le (by omega)
    have hlt' : ¬ (i : Int) < l.length := by omega
    rw [e, runL] at hrun
    simp (disch := first | assumption | omega | (simp only [List.length_append]; omega)) only [go_sem, reduceCtorEq, Nat.reduceEqDiff, Nat.reduceAdd, Nat.reduceSub, Nat.reduceMul, Nat.reduceLeDiff, Int.reduceLT, Int.reduceLE, Int.reduceEq, ↓reduceIte, Int.reduceNeg, Int.reduceAdd, Int.reduceSub, Int.reduceMul, true_imp_iff, forall_const, Nat.mul_one, Int.reduceToNat, Nat.reducePow, Int.reducePow, Bool.true_and, Bool.false_and, Bool.and_false, f0, f2, f4, f5, f6, hlt', ←hF]
    obtain rfl : i = i0 + k := by omega
    refine fin _ ?_
    simp (disch := first | assumption | omega | (simp only [List.length_append]; omega)) only [go_sem, reduceCtorEq, Nat.reduceEqDiff, Nat.reduceAdd, Nat.reduceSub, Nat.reduceMul, Nat.reduceLeDiff, Int.reduceLT, Int.reduceLE, Int.reduceEq, ↓reduceIte, Int.reduceNeg, Int.reduceAdd, Int.reduceSub, Int.reduceMul, true_imp_iff, forall_const, Nat.mul_one, Int.reduceToNat, Nat.reducePow, Int.reducePow, Bool.true_and, Bool.false_and, Bool.and_false, f0, f2, f4, f5, f6]

theorem rread_ok (l : List UInt8) (hl : l.length ≤ 1000000000) : Pure Tryd.prog 17 [.str l] (.tuple [refAV (readP l).1, .int .i64 (readP l).2]) := by
  intro σ
  obtain ⟨q, hq⟩ : ∃ q, readP l = q := ⟨_, rfl⟩
  rw [hq]
  unfold readP at hq
  refine a17 (by simp) ?_
  obtain ⟨F, hF⟩ : ∃ F, F = ACode.wp Tryd.prog c17_82 := ⟨_, rfl⟩
  simp (disch := first | assumption | omega | (simp only [List.length_append]; omega)) only [go_sem, reduceCtorEq, Nat.reduceEqDiff, Nat.reduceAdd, Nat.reduceSub, Nat.reduceMul, Nat.reduceLeDiff, Int.reduceLT, Int.reduceLE, Int.reduceEq, ↓reduceIte, Int.reduceNeg, Int.reduceAdd, Int.reduceSub, Int.reduceMul, true_imp_iff, forall_const, Nat.mul_one, Int.reduceToNat, Nat.reducePow, Int.reducePow, Bool.true_and, Bool.false_and, Bool.and_false, ←hF]
  refine allocC_by fun b0 hb0 => ?_
  simp (disch := first | assumption | omega | (simp only [List.length_append]; omega)) only [go_sem, reduceCtorEq, Nat.reduceEqDiff, Nat.reduceAdd, Nat.reduceSub, Nat.reduceMul, Nat.reduceLeDiff, Int.reduceLT, Int.reduceLE, Int.reduceEq, ↓reduceIte, Int.reduceNeg, Int.reduceAdd, Int.reduceSub, Int.reduceMul, true_imp_iff, forall_const, Nat.mul_one, Int.reduceToNat, Nat.reducePow, Int.reducePow, Bool.true_and, Bool.false_and, Bool.and_false, ←hF]
  refine allocC_by fun b1 hb1 => ?_
  obtain ⟨n1, n2, hb3⟩ := set_none hb1
  by_cases hlt : 0 < l.length
  · have hidx : l[0]? = some (l[0]'hlt) := List.getElem?_eq_getElem hlt
    obtain ⟨c, hc⟩ : ∃ c, l[0]'hlt = c := ⟨_, rfl⟩
    rw [hc] at hidx
    have hat : atP l 0 = c.toNat := by unfold atP; rw [hidx]
    have hlt' : (0 : Int) < l.length := by omega
    rw [hat] at hq
    by_cases h36 : (c.toNat : Int) = 36
    · rw [if_pos h36] at hq
      simp (disch := first | assumption | omega | (simp only [List.length_append]; omega)) only [go_sem, reduceCtorEq, Nat.reduceEqDiff, Nat.reduceAdd, Nat.reduceSub, Nat.reduceMul, Nat.reduceLeDiff, Int.reduceLT, Int.reduceLE, Int.reduceEq, ↓reduceIte, Int.reduceNeg, Int.reduceAdd, Int.reduceSub, Int.reduceMul, true_imp_iff, forall_const, Nat.mul_one, Int.reduceToNat, Nat.reducePow, Int.reducePow, Bool.true_and, Bool.false_and, Bool.and_false, n1, n2, hlt', hidx, h36, ASt.set_set, ←hF]
      rw [hF]
      refine rd1 l hl σ b0 b1 hb0 hb3 n2 1 (by omega) true q hq _ ?_
      simp (disch := first | assumption | omega | (simp only [List.length_append]; omega)) only [go_sem, reduceCtorEq, Nat.reduceEqDiff, Nat.reduceAdd, Nat.reduceSub, Nat.reduceMul, Nat.reduceLeDiff, Int.reduceLT, Int.reduceLE, Int.reduceEq, ↓reduceIte, Int.reduceNeg, Int.reduceAdd, Int.reduceSub, Int.reduceMul, true_imp_iff, forall_const, Nat.mul_one, Int.reduceToNat, Nat.reducePow, Int.reducePow, Bool.true_and, Bool.false_and, Bool.and_false]
    · rw [if_neg h36] at hq
      simp (disch := first | assumption | omega | (simp only [List.length_append]; omega)) only [go_sem, reduceCtorEq, Nat.reduceEqDiff, Nat.reduceAdd, Nat.reduceSub, Nat.reduceMul, Nat.reduceLeDiff, Int.reduceLT, Int.reduceLE, Int.reduceEq, ↓reduceIte, Int.reduceNeg, Int.reduceAdd, Int.reduceSub, Int.reduceMul, true_imp_iff, forall_const, Nat.mul_one, Int.reduceToNat, Nat.reducePow, Int.reducePow, Bool.true_and, Bool.false_and, Bool.and_false, n1, n2, hlt', hidx, h36, ASt.set_set, ←hF]
      rw [hF]
      refine rd1 l hl σ b0 b1 hb0 hb3 n2 0 (by omega) false q hq _ ?_
      simp (disch := first | assumption | omega | (simp only [List.length_append]; omega)) only [go_sem, reduceCtorEq, Nat.reduceEqDiff, Nat.reduceAdd, Nat.reduceSub, Nat.reduceMul, Nat.reduceLeDiff, Int.reduceLT, Int.reduceLE, Int.reduceEq, ↓reduceIte, Int.reduceNeg, Int.reduceAdd, Int.reduceSub, Int.reduceMul, true_imp_iff, forall_const, Nat.mul_one, Int.reduceToNat, Nat.reducePow, Int.reducePow, Bool.true_and, Bool.false_and, Bool.and_false]
  · have hat : atP l 0 = 0 := by unfold atP; rw [List.getElem?_eq_none (by omega)]
    have hlt' : ¬ (0 : Int) < l.length := by omega
    rw [hat, if_neg (by omega)] at hq
    simp (disch := first | assumption | omega | (simp only [List.length_append]; omega)) only [go_sem, reduceCtorEq, Nat.reduceEqDiff, Nat.reduceAdd, Nat.reduceSub, Nat.reduceMul, Nat.reduceLeDiff, Int.reduceLT, Int.reduceLE, Int.reduceEq, ↓reduceIte, Int.reduceNeg, Int.reduceAdd, Int.reduceSub, Int.reduceMul, true_imp_iff, forall_const, Nat.mul_one, Int.reduceToNat, Nat.reducePow, Int.reducePow, Bool.true_and, Bool.false_and, Bool.and_false, n1, n2, hlt', ASt.set_set, ←hF]
    rw [hF]
    refine rd1 l hl σ b0 b1 hb0 hb3 n2 0 (by omega) false q hq _ ?_
    simp (disch := first | assumption | omega | (simp only [List.length_append]; omega)) only [go_sem, reduceCtorEq, Nat.reduceEqDiff, Nat.reduceAdd, Nat.reduceSub, Nat.reduceMul, Nat.reduceLeDiff, Int.reduceLT, Int.reduceLE, Int.reduceEq, ↓reduceIte, Int.reduceNeg, Int.reduceAdd, Int.reduceSub, Int.reduceMul, true_imp_iff, forall_const, Nat.mul_one, Int.reduceToNat, Nat.reducePow, Int.reducePow, Bool.true_and, Bool.false_and, Bool.and_false]
end Go.A
