/- The document's Cut of tabularref01. -/
import Derived.Test.YtpedaofcndaooaaDoorHs
namespace Go.A
open Go.Proofs
set_option maxRecDepth 100000
set_option linter.unusedSimpArgs false
set_option linter.unusedVariables false

/-- Noughts ahead, till there are more than n digits. -/
def padP (s : List UInt8) (n : Nat) : List UInt8 := List.replicate (n + 1 - s.length) 48 ++ s
def cutD (s : List UInt8) (n : Nat) : List UInt8 :=
  if n = 0 then padP s n else if 53 ≤ (((padP s n)[(padP s n).length - n]?).getD 0).toNat then incP ((padP s n).take ((padP s n).length - n)) else (padP s n).take ((padP s n).length - n)
theorem padP_more {s : List UInt8} {n : Nat} (h : s.length ≤ n) : padP (48 :: s) n = padP s n := by
  unfold padP
  rw [List.length_cons, show n + 1 - s.length = (n + 1 - (s.length + 1)) + 1 by omega, List.replicate_succ', List.append_assoc]
  rfl
theorem padP_done {s : List UInt8} {n : Nat} (h : n < s.length) : padP s n = s := by
  unfold padP
  rw [show n + 1 - s.length = 0 by omega]
  rfl
theorem rcut_ok (s : List UInt8) (n : Nat) (hs : s.length ≤ 1000) (hn : n ≤ 1000) : Pure Tryd.prog 48 [.str s, .int .i64 n] (.str (cutD s n)) := by
  intro σ
  refine a48 (by simp) ?_
  simp (disch := first | assumption | omega | (simp only [List.length_append, List.length_cons, List.length_nil]; omega)) only [go_sem, reduceCtorEq, Nat.reduceEqDiff, Nat.reduceAdd, Nat.reduceSub, Nat.reduceMul, Nat.reduceLeDiff, Int.reduceLT, Int.reduceLE, Int.reduceEq, ↓reduceIte, Int.reduceNeg, Int.reduceAdd, Int.reduceSub, Int.reduceMul, true_imp_iff, forall_const, Nat.mul_one, Int.reduceToNat, Nat.reducePow, Int.reducePow, Bool.true_and, Bool.false_and, Bool.and_false]
  refine wp_loop_on (fun (l : List UInt8) a s2 => padP l n = padP s n ∧ l.length ≤ 2000 ∧ (a 0 = .str l ∧ a 1 = .int .i64 n) ∧ s2 = σ) (fun l => 2000 - l.length) s ⟨rfl, by omega, ?_, rfl⟩ ?_
  · simp (disch := first | assumption | omega | (simp only [List.length_append, List.length_cons, List.length_nil]; omega)) only [go_sem, reduceCtorEq, Nat.reduceEqDiff, Nat.reduceAdd, Nat.reduceSub, Nat.reduceMul, Nat.reduceLeDiff, Int.reduceLT, Int.reduceLE, Int.reduceEq, ↓reduceIte, Int.reduceNeg, Int.reduceAdd, Int.reduceSub, Int.reduceMul, true_imp_iff, forall_const, Nat.mul_one, Int.reduceToNat, Nat.reducePow, Int.reducePow, Bool.true_and, Bool.false_and, Bool.and_false]
  rintro l a s2 ⟨hp, hl, hf, rfl⟩
  by_cases hle : l.length ≤ n
  · have hle' : (l.length : Int) ≤ n := by omega
    have e1 : binS .add [48] l = some (.str (48 :: l)) := binS_add (by simp; omega)
    simp (disch := first | assumption | omega | (simp only [List.length_append, List.length_cons, List.length_nil]; omega)) only [go_sem, reduceCtorEq, Nat.reduceEqDiff, Nat.reduceAdd, Nat.reduceSub, Nat.reduceMul, Nat.reduceLeDiff, Int.reduceLT, Int.reduceLE, Int.reduceEq, ↓reduceIte, Int.reduceNeg, Int.reduceAdd, Int.reduceSub, Int.reduceMul, true_imp_iff, forall_const, Nat.mul_one, Int.reduceToNat, Nat.reducePow, Int.reducePow, Bool.true_and, Bool.false_and, Bool.and_false, hf, hle', e1]
    exact ⟨48 :: l, by simp; omega, by rw [padP_more hle, hp], by simp; omega, rfl⟩
  · have hle' : ¬ (l.length : Int) ≤ n := by omega
    rw [padP_done (by omega)] at hp
    have hres : cutD s n = if n = 0 then l else if 53 ≤ ((l[l.length - n]?).getD 0).toNat then incP (l.take (l.length - n)) else l.take (l.length - n) := by
      unfold cutD
      rw [← hp]
    rw [hres]
    by_cases h0 : n = 0
    · subst h0
      rw [if_pos rfl]
      have h0' : ((0 : Nat) : Int) = 0 := rfl
      simp (disch := first | assumption | omega | (simp only [List.length_append, List.length_cons, List.length_nil]; omega)) only [go_sem, reduceCtorEq, Nat.reduceEqDiff, Nat.reduceAdd, Nat.reduceSub, Nat.reduceMul, Nat.reduceLeDiff, Int.reduceLT, Int.reduceLE, Int.reduceEq, ↓reduceIte, Int.reduceNeg, Int.reduceAdd, Int.reduceSub, Int.reduceMul, true_imp_iff, forall_const, Nat.mul_one, Int.reduceToNat, Nat.reducePow, Int.reducePow, Bool.true_and, Bool.false_and, Bool.and_false, hf, hle', h0']
      exact retC_by (by repeat' (first | exact Drop.refl _ | with_reducible refine Drop.off ?_ (by assumption))) (.refl _) ⟨rfl, rfl⟩
    · have h0' : ¬ (n : Int) = 0 := by omega
      rw [if_neg h0]
      obtain ⟨k, hk⟩ : ∃ k, l.length - n = k := ⟨_, rfl⟩
      rw [hk]
      have hkl : k < l.length := by omega
      have e2 : (l.length : Int) - n = k := by omega
      obtain ⟨c, hc⟩ : ∃ c, l[k]'hkl = c := ⟨_, rfl⟩
      have hidx : l[k]? = some c := by rw [List.getElem?_eq_getElem hkl, hc]
      rw [hidx, Option.getD_some]
      have hkl' : (k : Int) < l.length := by omega
      have hkl2 : (k : Int) ≤ l.length := by omega
      by_cases h53 : 53 ≤ c.toNat
      · have h53' : (53 : Int) ≤ c.toNat := by omega
        rw [if_pos h53]
        have hI := inc_ok (l.take k) (by simp; omega)
        simp (disch := first | assumption | omega | (simp only [List.length_append, List.length_cons, List.length_nil]; omega)) only [go_sem, reduceCtorEq, Nat.reduceEqDiff, Nat.reduceAdd, Nat.reduceSub, Nat.reduceMul, Nat.reduceLeDiff, Int.reduceLT, Int.reduceLE, Int.reduceEq, ↓reduceIte, Int.reduceNeg, Int.reduceAdd, Int.reduceSub, Int.reduceMul, true_imp_iff, forall_const, Nat.mul_one, Int.reduceToNat, Nat.reducePow, Int.reducePow, Bool.true_and, Bool.false_and, Bool.and_false, hf, hle', h0', e2, hidx, hkl', hkl2, h53']
        refine hI.use ?_
        simp (disch := first | assumption | omega | (simp only [List.length_append, List.length_cons, List.length_nil]; omega)) only [go_sem, reduceCtorEq, Nat.reduceEqDiff, Nat.reduceAdd, Nat.reduceSub, Nat.reduceMul, Nat.reduceLeDiff, Int.reduceLT, Int.reduceLE, Int.reduceEq, ↓reduceIte, Int.reduceNeg, Int.reduceAdd, Int.reduceSub, Int.reduceMul, true_imp_iff, forall_const, Nat.mul_one, Int.reduceToNat, Nat.reducePow, Int.reducePow, Bool.true_and, Bool.false_and, Bool.and_false]
        exact retC_by (by repeat' (first | exact Drop.refl _ | with_reducible refine Drop.off ?_ (by assumption))) (.refl _) ⟨rfl, rfl⟩
      · have h53' : ¬ (53 : Int) ≤ c.toNat := by omega
        rw [if_neg h53]
        simp (disch := first | assumption | omega | (simp only [List.length_append, List.length_cons, List.length_nil]; omega)) only [go_sem, reduceCtorEq, Nat.reduceEqDiff, Nat.reduceAdd, Nat.reduceSub, Nat.reduceMul, Nat.reduceLeDiff, Int.reduceLT, Int.reduceLE, Int.reduceEq, ↓reduceIte, Int.reduceNeg, Int.reduceAdd, Int.reduceSub, Int.reduceMul, true_imp_iff, forall_const, Nat.mul_one, Int.reduceToNat, Nat.reducePow, Int.reducePow, Bool.true_and, Bool.false_and, Bool.and_false, hf, hle', h0', e2, hidx, hkl', hkl2, h53']
        exact retC_by (by repeat' (first | exact Drop.refl _ | with_reducible refine Drop.off ?_ (by assumption))) (.refl _) ⟨rfl, rfl⟩
end Go.A
