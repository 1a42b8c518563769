/- The document's Inc and Cut of tabularref01. -/
import Derived.Test.YtpedaofcndaooaaDoorHp
import Derived.Test.YtpedaofcndaooaaDoorBp
namespace Go.A
open Go.Proofs
set_option maxRecDepth 100000
set_option linter.unusedSimpArgs false
set_option linter.unusedVariables false

/-- One more, of digits; true: the carry is left. -/
def incC : List UInt8 → List UInt8 × Bool
  | [] => ([], true)
  | c :: l => if (incC l).2 = true then (if c.toNat < 57 then ((c + 1) :: (incC l).1, false) else (48 :: (incC l).1, true)) else (c :: (incC l).1, false)
def incP (s : List UInt8) : List UInt8 := if (incC s).2 = true then 49 :: (incC s).1 else (incC s).1
theorem incC_len : ∀ (l : List UInt8), (incC l).1.length = l.length
  | [] => rfl
  | c :: l => by
    rw [incC]
    have := incC_len l
    split
    · split <;> simp [this]
    · simp [this]
theorem succ_nat {c : UInt8} (h : c.toNat < 57) : (c + 1).toNat = c.toNat + 1 := by
  rw [UInt8.toNat_add, UInt8.toNat_one]
  omega
theorem incC_law : ∀ {l : List UInt8}, AllD l → AllD (incC l).1 ∧ nv (incC l).1 + (if (incC l).2 = true then 10 ^ l.length else 0) = nv l + 1
  | [], _ => ⟨by simp [incC, AllD], by simp [incC, nv]⟩
  | c :: l, h => by
    have hl : AllD l := fun d hd => h d (List.mem_cons_of_mem _ hd)
    have hc := h c (List.mem_cons_self)
    obtain ⟨h1, h2⟩ := incC_law hl
    have hlen := incC_len l
    rw [incC]
    by_cases hk : (incC l).2 = true
    · rw [if_pos hk] at h2 ⊢
      by_cases h57 : c.toNat < 57
      · rw [if_pos h57]
        have hs := succ_nat h57
        refine ⟨fun d hd => ?_, ?_⟩
        · rcases List.mem_cons.1 hd with rfl | hd
          · omega
          · exact h1 d hd
        · simp only [nv, hs, hlen, Bool.false_eq_true, if_false]
          rw [show c.toNat + 1 - 48 = (c.toNat - 48) + 1 by omega, Nat.add_mul]
          omega
      · rw [if_neg h57]
        refine ⟨fun d hd => ?_, ?_⟩
        · rcases List.mem_cons.1 hd with rfl | hd
          · decide
          · exact h1 d hd
        · simp only [nv, hlen, if_true, List.length_cons, Nat.pow_succ]
          rw [show c.toNat - 48 = 9 by omega]
          have e : (48 : UInt8).toNat = 48 := rfl
          rw [e]
          omega
    · rw [if_neg hk] at h2 ⊢
      refine ⟨fun d hd => ?_, ?_⟩
      · rcases List.mem_cons.1 hd with rfl | hd
        · exact hc
        · exact h1 d hd
      · simp only [nv, hlen, Bool.false_eq_true, if_false]
        omega
theorem incP_law {l : List UInt8} (h : AllD l) : AllD (incP l) ∧ nv (incP l) = nv l + 1 := by
  obtain ⟨h1, h2⟩ := incC_law h
  have hlen := incC_len l
  unfold incP
  split
  · rename_i hk
    rw [if_pos hk] at h2
    refine ⟨fun d hd => ?_, ?_⟩
    · rcases List.mem_cons.1 hd with rfl | hd
      · decide
      · exact h1 d hd
    · have e : (49 : UInt8).toNat = 49 := rfl
      simp only [nv, hlen, e]
      omega
  · rename_i hk
    rw [if_neg hk] at h2
    exact ⟨h1, by omega⟩
theorem incC_left : ∀ {p q q' : List UInt8}, incC q = (q', false) → incC (p ++ q) = (p ++ q', false)
  | [], q, q', h => h
  | c :: p, q, q', h => by
    rw [List.cons_append, incC, incC_left h]
    rfl
theorem inc_ok (s : List UInt8) (hs : s.length ≤ 1000000) : Pure Tryd.prog 59 [.str s] (.str (incP s)) := by
  intro σ
  refine a59 (by simp) ?_
  simp (disch := first | assumption | omega | (simp only [List.length_append, List.length_cons, List.length_nil]; omega)) only [go_sem, reduceCtorEq, Nat.reduceEqDiff, Nat.reduceAdd, Nat.reduceSub, Nat.reduceMul, Nat.reduceLeDiff, Int.reduceLT, Int.reduceLE, Int.reduceEq, ↓reduceIte, Int.reduceNeg, Int.reduceAdd, Int.reduceSub, Int.reduceMul, true_imp_iff, forall_const, Nat.mul_one, Int.reduceToNat, Nat.reducePow, Int.reducePow, Bool.true_and, Bool.false_and, Bool.and_false]
  refine s2b_own fun b cp hb hcp => ?_
  simp (disch := first | assumption | omega | (simp only [List.length_append, List.length_cons, List.length_nil]; omega)) only [go_sem, reduceCtorEq, Nat.reduceEqDiff, Nat.reduceAdd, Nat.reduceSub, Nat.reduceMul, Nat.reduceLeDiff, Int.reduceLT, Int.reduceLE, Int.reduceEq, ↓reduceIte, Int.reduceNeg, Int.reduceAdd, Int.reduceSub, Int.reduceMul, true_imp_iff, forall_const, Nat.mul_one, Int.reduceToNat, Nat.reducePow, Int.reducePow, Bool.true_and, Bool.false_and, Bool.and_false]
  refine wp_loop_on (fun (r : Nat) a σ' => r ≤ s.length ∧ (incC (s.drop r)).2 = true ∧ (a 3 = .msl b 0 s.length cp ∧ a 4 = .int .i64 ((r : Int) - 1)) ∧ σ' = σ.set b (some (.obj (bytesAV (s.take r ++ (incC (s.drop r)).1)))))
    (fun r => r) s.length ⟨Nat.le_refl _, by rw [List.drop_eq_nil_of_le (Nat.le_refl _)]; rfl, ?_, by rw [List.drop_eq_nil_of_le (Nat.le_refl _), List.take_of_length_le (Nat.le_refl _)]; simp [incC]⟩ ?_
  · simp (disch := first | assumption | omega | (simp only [List.length_append, List.length_cons, List.length_nil]; omega)) only [go_sem, reduceCtorEq, Nat.reduceEqDiff, Nat.reduceAdd, Nat.reduceSub, Nat.reduceMul, Nat.reduceLeDiff, Int.reduceLT, Int.reduceLE, Int.reduceEq, ↓reduceIte, Int.reduceNeg, Int.reduceAdd, Int.reduceSub, Int.reduceMul, true_imp_iff, forall_const, Nat.mul_one, Int.reduceToNat, Nat.reducePow, Int.reducePow, Bool.true_and, Bool.false_and, Bool.and_false]
  rintro r a σ1 ⟨hr, hk, hf, rfl⟩
  have hSl := incC_len (s.drop r)
  obtain ⟨m, hm⟩ : ∃ m, s.take r ++ (incC (s.drop r)).1 = m := ⟨_, rfl⟩
  have hml : m.length = s.length := by rw [← hm]; simp [hSl]; omega
  rw [hm]
  by_cases h0 : r = 0
  · subst h0
    have g0 : ¬ (0 : Int) ≤ ((0 : Nat) : Int) - 1 := by omega
    have hle2 : s.length ≤ m.length := by omega
    have htk := bytes_all hml
    have hres : incP s = 49 :: m := by
      rw [List.drop_zero] at hk hm
      unfold incP
      rw [if_pos hk, ← hm]
      rfl
    have e1 : binS .add [49] m = some (.str (49 :: m)) := binS_add (by simp; omega)
    rw [hres]
    simp (disch := first | assumption | omega | (simp only [List.length_append, List.length_cons, List.length_nil]; omega)) only [go_sem, reduceCtorEq, Nat.reduceEqDiff, Nat.reduceAdd, Nat.reduceSub, Nat.reduceMul, Nat.reduceLeDiff, Int.reduceLT, Int.reduceLE, Int.reduceEq, ↓reduceIte, Int.reduceNeg, Int.reduceAdd, Int.reduceSub, Int.reduceMul, true_imp_iff, forall_const, Nat.mul_one, Int.reduceToNat, Nat.reducePow, Int.reducePow, Bool.true_and, Bool.false_and, Bool.and_false, hf, g0, hle2, htk, e1]
    exact retC_by (by repeat' (first | exact Drop.refl _ | with_reducible refine Drop.off ?_ (by assumption))) (.refl _) ⟨rfl, rfl⟩
  · obtain ⟨k, rfl⟩ : ∃ k, r = k + 1 := ⟨r - 1, by omega⟩
    have hlt : k < s.length := by omega
    have e0 : ((k + 1 : Nat) : Int) - 1 = k := by omega
    rw [e0] at hf
    obtain ⟨c, hc⟩ : ∃ c, s[k]'hlt = c := ⟨_, rfl⟩
    have hdk : s.drop k = c :: s.drop (k + 1) := by rw [List.drop_eq_getElem_cons hlt, hc]
    have hS : ∀ x : UInt8, m.set k x = s.take k ++ x :: (incC (s.drop (k + 1))).1 := by
      intro x
      rw [← hm, List.take_succ_eq_append_getElem hlt, List.append_assoc, List.set_append_right _ _ (by simp; omega)]
      have e : k - (s.take k).length = 0 := by simp; omega
      rw [e]
      rfl
    have hidx : m[k]? = some c := by
      rw [← hm, List.take_succ_eq_append_getElem hlt, hc, List.append_assoc, List.getElem?_append_right (by simp; omega)]
      have e : k - (s.take k).length = 0 := by simp; omega
      rw [e]
      rfl
    have hcb := u8_lt c
    have hle : k + 1 ≤ m.length := by omega
    have g0 : (0 : Int) ≤ (k : Int) := by omega
    by_cases h57 : c.toNat < 57
    · have h57' : (c.toNat : Int) < 57 := by omega
      have hw := set_bytes (l := m) (i := k) (m := (c.toNat : Int) + 1) (by omega)
      have hw0 : (c.toNat : Int) + 1 = ((c + 1).toNat : Int) := by rw [succ_nat h57]; omega
      rw [hw0, bytes_set, hS] at hw
      obtain ⟨m2, hm2⟩ : ∃ m2, s.take k ++ (c + 1) :: (incC (s.drop (k + 1))).1 = m2 := ⟨_, rfl⟩
      have hm2l : m2.length = s.length := by rw [← hm2]; simp [hSl]; omega
      have htk := bytes_all hm2l
      have hle2 : s.length ≤ m2.length := by omega
      have hres : incP s = m2 := by
        have hq : incC (s.drop k) = ((c + 1) :: (incC (s.drop (k + 1))).1, false) := by rw [hdk, incC, if_pos hk, if_pos h57]
        have := incC_left (p := s.take k) hq
        rw [List.take_append_drop] at this
        unfold incP
        rw [this, hm2]
        rfl
      rw [hm2] at hw
      rw [hres]
      simp (disch := first | assumption | omega | (simp only [List.length_append, List.length_cons, List.length_nil]; omega)) only [go_sem, reduceCtorEq, Nat.reduceEqDiff, Nat.reduceAdd, Nat.reduceSub, Nat.reduceMul, Nat.reduceLeDiff, Int.reduceLT, Int.reduceLE, Int.reduceEq, ↓reduceIte, Int.reduceNeg, Int.reduceAdd, Int.reduceSub, Int.reduceMul, true_imp_iff, forall_const, Nat.mul_one, Int.reduceToNat, Nat.reducePow, Int.reducePow, Bool.true_and, Bool.false_and, Bool.and_false, hf, g0, hidx, hle, h57', hw0, hw, hle2, htk]
      exact retC_by (by repeat' (first | exact Drop.refl _ | with_reducible refine Drop.off ?_ (by assumption))) (.refl _) ⟨rfl, rfl⟩
    · have h57' : ¬ (c.toNat : Int) < 57 := by omega
      have hw := set_bytes (l := m) (i := k) (m := 48) (by omega)
      have hw0 : (48 : Int) = ((48 : UInt8).toNat : Int) := rfl
      have hq : incC (s.drop k) = (48 :: (incC (s.drop (k + 1))).1, true) := by rw [hdk, incC, if_pos hk, if_neg h57]
      have hw2 : (bytesAV m).set k (.int .u8 48) = bytesAV (s.take k ++ (incC (s.drop k)).1) := by
        rw [hw0, bytes_set, hS, hq]
      rw [hw2] at hw
      simp (disch := first | assumption | omega | (simp only [List.length_append, List.length_cons, List.length_nil]; omega)) only [go_sem, reduceCtorEq, Nat.reduceEqDiff, Nat.reduceAdd, Nat.reduceSub, Nat.reduceMul, Nat.reduceLeDiff, Int.reduceLT, Int.reduceLE, Int.reduceEq, ↓reduceIte, Int.reduceNeg, Int.reduceAdd, Int.reduceSub, Int.reduceMul, true_imp_iff, forall_const, Nat.mul_one, Int.reduceToNat, Nat.reducePow, Int.reducePow, Bool.true_and, Bool.false_and, Bool.and_false, hf, g0, hidx, hle, h57', hw]
      exact ⟨k, by omega, by omega, by rw [hq], rfl, rfl⟩
end Go.A
