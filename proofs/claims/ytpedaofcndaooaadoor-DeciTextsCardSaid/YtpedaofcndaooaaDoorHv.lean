/- The document's Cut of tabularref01. · What the document's Cut comes to: rounding. Plain. -/
import Derived.Test.YtpedaofcndaooaaDoorHs
namespace Go.A
open Go.Proofs
set_option maxRecDepth 100000
set_option linter.unusedSimpArgs false
set_option linter.unusedVariables false

/-- Noughts ahead, till there are more than n digits. -/
def padP (s : List UInt8) (n : Nat) : List UInt8 := List.replicate (n + 1 - s.length) 48 ++ s
def cutD (s : List UInt8) (n : Nat) : List UInt8 :=
  if n = 0 then padP s n else if 53 ≤ (((padP s n)[(padP s n).length - n]?).getD 0).toNat then incP ((padP s n).take ((padP s n).length - n)) else (padP s n).take ((padP s n).length - n)
theorem padP_more {s : List UInt8} {n : Nat} (h : s.length ≤ n) : padP (48 :: s) n = padP s n := by
  unfold padP
  rw [List.length_cons, show n + 1 - s.length = (n + 1 - (s.length + 1)) + 1 by omega, List.replicate_succ', List.append_assoc]
  rfl
theorem padP_done {s : List UInt8} {n : Nat} (h : n < s.length) : padP s n = s := by
  unfold padP
  rw [show n + 1 - s.length = 0 by omega]
  rfl
theorem rcut_ok (s : List UInt8) (n : Nat) (hs : s.length ≤ 1000) (hn : n ≤ 1000) : Pure Tryd.prog 48 [.str s, .int .i64 n] (.str (cutD s n)) := by
  intro σ
  refine a48 (by simp) ?_
  simp (disch := first | assumption | omega | (simp only [List.length_append, List.length_cons, List.length_nil]; omega)) only [go_sem, reduceCtorEq, Nat.reduceEqDiff, Nat.reduceAdd, Nat.reduceSub, Nat.reduceMul, Nat.reduceLeDiff, Int.reduceLT, Int.reduceLE, Int.reduceEq, ↓reduceIte, Int.reduceNeg, Int.reduceAdd, Int.reduceSub, Int.reduceMul, true_imp_iff, forall_const, Nat.mul_one, Int.reduceToNat, Nat.reducePow, Int.reducePow, Bool.true_and, Bool.false_and, Bool.and_false]
  refine wp_loop_on (fun (l : List UInt8) a s2 => padP l n = padP s n ∧ l.length ≤ 2000 ∧ (a 0 = .str l ∧ a 1 = .int .i64 n) ∧ s2 = σ) (fun l => 2000 - l.length) s ⟨rfl, by omega, ?_, rfl⟩ ?_
  · simp (disch := first | assumption | omega | (simp only [List.length_append, List.length_cons, List.length_nil]; omega)) only [go_sem, reduceCtorEq, Nat.reduceEqDiff, Nat.reduceAdd, Nat.reduceSub, Nat.reduceMul, Nat.reduceLeDiff, Int.reduceLT, Int.reduceLE, Int.reduceEq, ↓reduceIte, Int.reduceNeg, Int.reduceAdd, Int.reduceSub, Int.reduceMul, true_imp_iff, forall_const, Nat.mul_one, Int.reduceToNat, Nat.reducePow, Int.reducePow, Bool.true_and, Bool.false_and, Bool.and_false]
  rintro l a s2 ⟨hp, hl, hf, rfl⟩
  by_cases hle : l.length ≤ n
  · have hle' : (l.length : Int) ≤ n := by omega
    have e1 : binS .add [48] l = some (.str (48 :: l)) := binS_add (by simp; omega)
    simp (disch := first | assumption | omega | (simp only [List.length_append, List.length_cons, List.length_nil]; omega)) only [go_sem, reduceCtorEq, Nat.reduceEqDiff, Nat.reduceAdd, Nat.reduceSub, Nat.reduceMul, Nat.reduceLeDiff, Int.reduceLT, Int.reduceLE, Int.reduceEq, ↓reduceIte, Int.reduceNeg, Int.reduceAdd, Int.reduceSub, Int.reduceMul, true_imp_iff, forall_const, Nat.mul_one, Int.reduceToNat, Nat.reducePow, Int.reducePow, Bool.true_and, Bool.false_and, Bool.and_false, hf, hle', e1]
    exact ⟨48 :: l, by simp; omega, by rw [padP_more hle, hp], by simp; omega, rfl⟩
  · have hle' : ¬ (l.length : Int) ≤ n := by omega
    rw [padP_done (by omega)] at hp
    have hres : cutD s n = if n = 0 then l else if 53 ≤ ((l[l.length - n]?).getD 0).toNat then incP (l.take (l.length - n)) else l.take (l.length - n) := by
      unfold cutD
      rw [← hp]
    rw [hres]
    by_cases h0 : n = 0
    · subst h0
      rw [if_pos rfl]
      have h0' : ((0 : Nat) : Int) = 0 := rfl
      simp (disch := first | assumption | omega | (simp only [List.length_append, List.length_cons, List.length_nil]; omega)) only [go_sem, reduceCtorEq, Nat.reduceEqDiff, Nat.reduceAdd, Nat.reduceSub, Nat.reduceMul, Nat.reduceLeDiff, Int.reduceLT, Int.reduceLE, Int.reduceEq, ↓reduceIte, Int.reduceNeg, Int.reduceAdd, Int.reduceSub, Int.reduceMul, true_imp_iff, forall_const, Nat.mul_one, Int.reduceToNat, Nat.reducePow, Int.reducePow, Bool.true_and, Bool.false_and, Bool.and_false, hf, hle', h0']
      exact retC_by (by repeat' (first | exact Drop.refl _ | with_reducible refine Drop.off ?_ (by assumption))) (.refl _) ⟨rfl, rfl⟩
    · have h0' : ¬ (n : Int) = 0 := by omega
      rw [if_neg h0]
      obtain ⟨k, hk⟩ : ∃ k, l.length - n = k := ⟨_, rfl⟩
      rw [hk]
      have hkl : k < l.length := by omega
      have e2 : (l.length : Int) - n = k := by omega
      obtain ⟨c, hc⟩ : ∃ c, l[k]'hkl = c := ⟨_, rfl⟩
      have hidx : l[k]? = some c := by rw [List.getElem?_eq_getElem hkl, hc]
      rw [hidx, Option.getD_some]
      have hkl' : (k : Int) < l.length := by omega
      have hkl2 : (k : Int) ≤ l.length := by omega
      by_cases h53 : 53 ≤ c.toNat
      · have h53' : (53 : Int) ≤ c.toNat := by omega
        rw [if_pos h53]
        have hI := inc_ok (l.take k) (by simp; omega)
        simp (disch := first | assumption | omega | (simp only [List.length_append, List.length_cons, List.length_nil]; omega)) only [go_sem, reduceCtorEq, Nat.reduceEqDiff, Nat.reduceAdd, Nat.reduceSub, Nat.reduceMul, Nat.reduceLeDiff, Int.reduceLT, Int.reduceLE, Int.reduceEq, ↓reduceIte, Int.reduceNeg, Int.reduceAdd, Int.reduceSub, Int.reduceMul, true_imp_iff, forall_const, Nat.mul_one, Int.reduceToNat, Nat.reducePow, Int.reducePow, Bool.true_and, Bool.false_and, Bool.and_false, hf, hle', h0', e2, hidx, hkl', hkl2, h53']
        refine hI.use ?_
        simp (disch := first | assumption | omega | (simp only [List.length_append, List.length_cons, List.length_nil]; omega)) only [go_sem, reduceCtorEq, Nat.reduceEqDiff, Nat.reduceAdd, Nat.reduceSub, Nat.reduceMul, Nat.reduceLeDiff, Int.reduceLT, Int.reduceLE, Int.reduceEq, ↓reduceIte, Int.reduceNeg, Int.reduceAdd, Int.reduceSub, Int.reduceMul, true_imp_iff, forall_const, Nat.mul_one, Int.reduceToNat, Nat.reducePow, Int.reducePow, Bool.true_and, Bool.false_and, Bool.and_false]
        exact retC_by (by repeat' (first | exact Drop.refl _ | with_reducible refine Drop.off ?_ (by assumption))) (.refl _) ⟨rfl, rfl⟩
      · have h53' : ¬ (53 : Int) ≤ c.toNat := by omega
        rw [if_neg h53]
        simp (disch := first | assumption | omega | (simp only [List.length_append, List.length_cons, List.length_nil]; omega)) only [go_sem, reduceCtorEq, Nat.reduceEqDiff, Nat.reduceAdd, Nat.reduceSub, Nat.reduceMul, Nat.reduceLeDiff, Int.reduceLT, Int.reduceLE, Int.reduceEq, ↓reduceIte, Int.reduceNeg, Int.reduceAdd, Int.reduceSub, Int.reduceMul, true_imp_iff, forall_const, Nat.mul_one, Int.reduceToNat, Nat.reducePow, Int.reducePow, Bool.true_and, Bool.false_and, Bool.and_false, hf, hle', h0', e2, hidx, hkl', hkl2, h53']
        exact retC_by (by repeat' (first | exact Drop.refl _ | with_reducible refine Drop.off ?_ (by assumption))) (.refl _) ⟨rfl, rfl⟩
end Go.A
namespace Go.A
open Go.Proofs
set_option maxRecDepth 100000
set_option linter.unusedSimpArgs false
set_option linter.unusedVariables false

theorem nv_pad (s : List UInt8) (n : Nat) : nv (padP s n) = nv s := by
  unfold padP
  rw [nv_app, nv_zeros]
  omega
theorem allD_pad {s : List UInt8} (h : AllD s) (n : Nat) : AllD (padP s n) := by
  intro c hc
  rcases List.mem_append.1 hc with hc | hc
  · obtain ⟨_, rfl⟩ := List.mem_replicate.1 hc
    decide
  · exact h c hc
theorem pad_len (s : List UInt8) (n : Nat) : n < (padP s n).length := by
  unfold padP
  simp
  omega
/-- The digits without the last n, rounded: n noughts behind them it is the rounded number. -/
theorem cut_law {s : List UInt8} (h : AllD s) {n : Nat} (hn : 0 < n) : AllD (cutD s n) ∧ nv (cutD s n) * 10 ^ n = rndN (nv s) (10 ^ n) := by
  obtain ⟨t, ht⟩ : ∃ t, padP s n = t := ⟨_, rfl⟩
  have h1 : nv t = nv s := by rw [← ht, nv_pad]
  have h2 : AllD t := ht ▸ allD_pad h n
  have h3 : n < t.length := ht ▸ pad_len s n
  unfold cutD
  rw [ht, if_neg (by omega)]
  have hk : t.length - n < t.length := by omega
  have hA : AllD (t.take (t.length - n)) := fun c hc => h2 c (List.mem_of_mem_take hc)
  obtain ⟨c, hc⟩ : ∃ c, t[t.length - n]'hk = c := ⟨_, rfl⟩
  have hdr : t.drop (t.length - n) = c :: t.drop (t.length - n + 1) := by rw [List.drop_eq_getElem_cons hk, hc]
  have hB : AllD (t.drop (t.length - n + 1)) := fun d hd => h2 d (List.mem_of_mem_drop hd)
  have hcd := h2 c (hc ▸ List.getElem_mem hk)
  have hBl : (t.drop (t.length - n + 1)).length = n - 1 := by rw [List.length_drop]; omega
  have hb := nv_lt hB
  rw [hBl] at hb
  have hval : nv t = nv (t.take (t.length - n)) * 10 ^ n + ((c.toNat - 48) * 10 ^ (n - 1) + nv (t.drop (t.length - n + 1))) := by
    have := nv_app (t.take (t.length - n)) (t.drop (t.length - n))
    rw [List.take_append_drop, List.length_drop, hdr, nv, hBl, show t.length - (t.length - n) = n by omega] at this
    exact this
  have e10 : 10 ^ n = 10 * 10 ^ (n - 1) := by
    rw [← Nat.pow_succ']
    congr 1
    omega
  rw [List.getElem?_eq_getElem hk, hc, Option.getD_some, ← h1]
  obtain ⟨i1, i2⟩ := incP_law hA
  obtain ⟨A, hAe⟩ : ∃ A, nv (t.take (t.length - n)) = A := ⟨_, rfl⟩
  rw [hAe] at hval i2
  generalize nv (t.drop (t.length - n + 1)) = b at *
  obtain ⟨d, hd⟩ : ∃ d, c.toNat - 48 = d := ⟨_, rfl⟩
  rw [hd] at hval
  generalize hw : 10 ^ (n - 1) = w at *
  have hr : nv t % 10 ^ n = d * w + b := by
    rw [hval, e10, Nat.mul_add_mod_of_lt]
    have : d * w ≤ 9 * w := Nat.mul_le_mul_right _ (by omega)
    omega
  unfold rndN
  rw [hr]
  have hu : nv t - (d * w + b) = A * 10 ^ n := by rw [hval]; omega
  rw [hu, e10]
  by_cases h5 : 53 ≤ c.toNat
  · rw [if_pos h5, if_pos]
    · exact ⟨i1, by rw [i2, Nat.add_mul]; omega⟩
    · have : 5 * w ≤ d * w := Nat.mul_le_mul_right _ (by omega)
      omega
  · rw [if_neg h5, if_neg]
    · exact ⟨hA, by rw [hAe]⟩
    · have : d * w ≤ 4 * w := Nat.mul_le_mul_right _ (by omega)
      omega
end Go.A
