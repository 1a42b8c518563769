/- The reader's methods, walked: whole numbers, texts, counts, lists. -/
import Derived.Test.YtmefepbdognkdaaGreatDoorVe
import Derived.Test.YtmefepbdognkdaaGreatDoorCodeVf
namespace Go.A
open Go.Proofs Go.Vint
set_option maxRecDepth 100000
set_option linter.unusedSimpArgs false
set_option linter.unusedVariables false

theorem scan_facts : ∀ (l : List UInt8) (k U : Nat), U < 128 ^ k → k ≤ 9 → (scan k U l).2.1 < 18446744073709551616 ∧ (scan k U l).2.2 ≤ k + l.length ∧ ((scan k U l).1 = 0 ∨ (scan k U l).1 = 2 ∧ (scan k U l).2.1 = 0 ∧ (scan k U l).2.2 = 0 ∨ (scan k U l).1 = 3 ∧ (scan k U l).2.1 = 0 ∧ (scan k U l).2.2 = 0)
  | [], k, U, hU, hk => by simp [scan]
  | c :: r, k, U, hU, hk => by
    have hbd := or_shift_bd (k := k) (U := U) (c := c) hU
    have hcb := c.toNat_lt
    unfold scan
    split
    · simp
    · rename_i hbad
      split
      · refine ⟨?_, by simp only [List.length_cons]; omega, .inl rfl⟩
        dsimp only
        rcases Nat.lt_or_ge k 9 with h | h
        · have h2 : 128 ^ (k + 1) ≤ 128 ^ 9 := Nat.pow_le_pow_right (by omega) (by omega)
          have e9 : (128 : Nat) ^ 9 = 9223372036854775808 := by decide
          omega
        · obtain rfl : k = 9 := by omega
          have e9 : (128 : Nat) ^ 9 = 9223372036854775808 := by decide
          rw [e9] at hU ⊢
          have : c.toNat ≤ 1 := by omega
          omega
      · have hk9 : k ≠ 9 := by omega
        have ih := scan_facts r (k + 1) (U + c.toNat % 128 * 128 ^ k) hbd (by omega)
        refine ⟨ih.1, by simp; omega, ih.2.2⟩
theorem readU_facts (s : List UInt8) (p : Nat) (e : Int) (hp : p ≤ s.length) : (readU s p e).1 < 18446744073709551616 ∧ (readU s p e).2.1 ≤ s.length ∧ ((readU s p e).2.2 ≠ 0 → (readU s p e).1 = 0 ∧ (readU s p e).2.1 = p) ∧ (e ≠ 0 → (readU s p e).2.2 = e) := by
  unfold readU
  by_cases he : e ≠ 0
  · rw [if_pos he]; simp; exact hp
  · rw [if_neg he]
    obtain ⟨h1, h2, h3⟩ := scan_facts (s.drop p) 0 0 (by simp) (by omega)
    refine ⟨h1, by simp at h2 ⊢; omega, fun h => ?_, fun h => absurd h he⟩
    dsimp only at h ⊢
    omega

/-- What was folded, unfolded. -/
def unfI (u : Nat) : Int := if u % 2 = 1 then -((u / 2 : Nat) : Int) - 1 else ((u / 2 : Nat) : Int)
theorem unf_fold {n : Int} (h1 : -9223372036854775808 ≤ n) (h2 : n ≤ 9223372036854775807) : unfI (foldI n).toNat = n := by
  unfold foldI unfI
  split <;> split <;> omega
theorem unf_bits {u : Nat} (hu : u < 18446744073709551616) :
    IntKind.wrap .i64 ((BitVec.ofInt 64 ((u : Int) / 2) ^^^ BitVec.ofInt 64 (IntKind.wrap .i64 (0 - IntKind.wrap .i64 ((BitVec.ofInt 64 (u : Int) &&& BitVec.ofInt 64 1).toNat : Int)))).toNat : Int) = unfI u := by
  have ofi : ∀ a : Nat, a < 18446744073709551616 → (BitVec.ofInt 64 (a : Int)).toNat = a := fun a ha => ofInt_u64 a ha
  have h1 : (BitVec.ofInt 64 (u : Int) &&& BitVec.ofInt 64 1).toNat = u % 2 := by
    rw [BitVec.toNat_and, ofi u hu, show BitVec.ofInt 64 1 = 1#64 by decide +kernel]
    simp [Nat.and_one_is_mod]
  rw [h1, show (u : Int) / 2 = ((u / 2 : Nat) : Int) by omega]
  unfold unfI
  rcases Nat.mod_two_eq_zero_or_one u with h | h
  · rw [h, if_neg (by omega)]
    have e3 : BitVec.ofInt 64 (IntKind.wrap .i64 (0 - IntKind.wrap .i64 ((0 : Nat) : Int))) = 0#64 := by decide +kernel
    rw [e3, BitVec.xor_zero, ofi _ (by omega), wrap_i64 (by omega) (by omega)]
  · rw [h, if_pos rfl]
    have e3 : BitVec.ofInt 64 (IntKind.wrap .i64 (0 - IntKind.wrap .i64 ((1 : Nat) : Int))) = BitVec.allOnes 64 := by decide +kernel
    rw [e3, BitVec.xor_allOnes, BitVec.toNat_not, ofi _ (by omega)]
    rw [IntKind.wrap_i64]
    omega
theorem rint_ok (s : List UInt8) (p : Nat) (e : Int) (b : Nat) (σ : ASt) (hb : σ b = rd s p e) (hs : s.length ≤ 4611686018427387904) (hp : p ≤ s.length) :
    ACalls Tryz.prog 107 [.ptr b 0] σ fun v σ' => v = .int .i64 (unfI (readU s p e).1) ∧ σ' = σ.set b (rd s (readU s p e).2.1 (readU s p e).2.2) := by
  refine a107 (by simp) ?_
  obtain ⟨f1, f2, f3, f4⟩ := readU_facts s p e hp
  simp (disch := first | assumption | omega | (simp only [List.length_append, List.length_cons, List.length_nil]; omega)) only [go_sem, reduceCtorEq, Nat.reduceEqDiff, Nat.reduceAdd, Nat.reduceSub, Nat.reduceMul, Nat.reduceLeDiff, Int.reduceLT, Int.reduceLE, Int.reduceEq, ↓reduceIte, Int.reduceNeg, Int.reduceAdd, Int.reduceSub, Int.reduceMul, true_imp_iff, forall_const, Nat.mul_one, Int.reduceToNat, Nat.reducePow, Int.reducePow, Bool.true_and, Bool.false_and, Bool.and_false]
  refine (ruint_ok s p e b σ hb hs hp).mono ?_
  rintro v σ' ⟨rfl, rfl⟩
  generalize readU s p e = R at *
  obtain ⟨u, p', e'⟩ := R
  dsimp only at *
  simp (disch := first | assumption | omega | (simp only [List.length_append, List.length_cons, List.length_nil]; omega)) only [go_sem, reduceCtorEq, Nat.reduceEqDiff, Nat.reduceAdd, Nat.reduceSub, Nat.reduceMul, Nat.reduceLeDiff, Int.reduceLT, Int.reduceLE, Int.reduceEq, ↓reduceIte, Int.reduceNeg, Int.reduceAdd, Int.reduceSub, Int.reduceMul, true_imp_iff, forall_const, Nat.mul_one, Int.reduceToNat, Nat.reducePow, Int.reducePow, Bool.true_and, Bool.false_and, Bool.and_false]
  exact retC_by (Drop.refl _) (.refl _) ⟨congrArg (AV.int .i64) (unf_bits f1), rfl⟩

def rtxP (s : List UInt8) (p : Nat) (e : Int) (most : Nat) : List UInt8 × Nat × Int :=
  if (readU s p e).2.2 ≠ 0 then ([], (readU s p e).2.1, (readU s p e).2.2)
  else if most < (readU s p e).1 then ([], (readU s p e).2.1, 11)
  else if s.length < (readU s p e).2.1 + (readU s p e).1 then ([], (readU s p e).2.1, 2)
  else ((s.drop (readU s p e).2.1).take (readU s p e).1, (readU s p e).2.1 + (readU s p e).1, 0)
theorem rtext_ok (s : List UInt8) (p : Nat) (e : Int) (most : Nat) (b : Nat) (σ : ASt) (hb : σ b = rd s p e) (hs : s.length ≤ 4611686018427387904) (hp : p ≤ s.length) (hm : most ≤ 1000000) :
    ACalls Tryz.prog 108 [.ptr b 0, .int .i64 most] σ fun v σ' => v = .str (rtxP s p e most).1 ∧ σ' = σ.set b (rd s (rtxP s p e most).2.1 (rtxP s p e most).2.2) := by
  refine a108 (by simp) ?_
  obtain ⟨q, hq⟩ : ∃ q, rtxP s p e most = q := ⟨_, rfl⟩
  rw [hq]
  unfold rtxP at hq
  obtain ⟨f1, f2, f3, f4⟩ := readU_facts s p e hp
  simp (disch := first | assumption | omega | (simp only [List.length_append, List.length_cons, List.length_nil]; omega)) only [go_sem, reduceCtorEq, Nat.reduceEqDiff, Nat.reduceAdd, Nat.reduceSub, Nat.reduceMul, Nat.reduceLeDiff, Int.reduceLT, Int.reduceLE, Int.reduceEq, ↓reduceIte, Int.reduceNeg, Int.reduceAdd, Int.reduceSub, Int.reduceMul, true_imp_iff, forall_const, Nat.mul_one, Int.reduceToNat, Nat.reducePow, Int.reducePow, Bool.true_and, Bool.false_and, Bool.and_false]
  refine (ruint_ok s p e b σ hb hs hp).mono ?_
  rintro v σ' ⟨rfl, rfl⟩
  generalize readU s p e = R at *
  obtain ⟨u, p', e'⟩ := R
  dsimp only at *
  have hmx : max (most : Int) 0 = most := by omega
  by_cases he : e' = 0
  · subst he
    rw [if_neg (by simp)] at hq
    by_cases h1 : most < u
    · have h1' : (most : Int) < u := by omega
      rw [if_pos h1] at hq
      subst hq
      simp (disch := first | assumption | omega | (simp only [List.length_append, List.length_cons, List.length_nil]; omega)) only [go_sem, reduceCtorEq, Nat.reduceEqDiff, Nat.reduceAdd, Nat.reduceSub, Nat.reduceMul, Nat.reduceLeDiff, Int.reduceLT, Int.reduceLE, Int.reduceEq, ↓reduceIte, Int.reduceNeg, Int.reduceAdd, Int.reduceSub, Int.reduceMul, true_imp_iff, forall_const, Nat.mul_one, Int.reduceToNat, Nat.reducePow, Int.reducePow, Bool.true_and, Bool.false_and, Bool.and_false, rd, hmx, h1']
      refine (rfail_ok s p' 0 11 b _ (ASt.set_same _ _ _)).mono ?_
      rintro v σ' ⟨rfl, rfl⟩
      simp (disch := first | assumption | omega | (simp only [List.length_append, List.length_cons, List.length_nil]; omega)) only [go_sem, reduceCtorEq, Nat.reduceEqDiff, Nat.reduceAdd, Nat.reduceSub, Nat.reduceMul, Nat.reduceLeDiff, Int.reduceLT, Int.reduceLE, Int.reduceEq, ↓reduceIte, Int.reduceNeg, Int.reduceAdd, Int.reduceSub, Int.reduceMul, true_imp_iff, forall_const, Nat.mul_one, Int.reduceToNat, Nat.reducePow, Int.reducePow, Bool.true_and, Bool.false_and, Bool.and_false, rd, firstErr]
      exact retC_by (Drop.refl _) (.refl _) ⟨rfl, rfl⟩
    · have h1' : ¬ (most : Int) < u := by omega
      rw [if_neg h1] at hq
      by_cases h2 : s.length < p' + u
      · have h2' : (s.length : Int) - p' < u := by omega
        rw [if_pos h2] at hq
        subst hq
        simp (disch := first | assumption | omega | (simp only [List.length_append, List.length_cons, List.length_nil]; omega)) only [go_sem, reduceCtorEq, Nat.reduceEqDiff, Nat.reduceAdd, Nat.reduceSub, Nat.reduceMul, Nat.reduceLeDiff, Int.reduceLT, Int.reduceLE, Int.reduceEq, ↓reduceIte, Int.reduceNeg, Int.reduceAdd, Int.reduceSub, Int.reduceMul, true_imp_iff, forall_const, Nat.mul_one, Int.reduceToNat, Nat.reducePow, Int.reducePow, Bool.true_and, Bool.false_and, Bool.and_false, rd, hmx, h1', h2']
        refine (rfail_ok s p' 0 2 b _ (ASt.set_same _ _ _)).mono ?_
        rintro v σ' ⟨rfl, rfl⟩
        simp (disch := first | assumption | omega | (simp only [List.length_append, List.length_cons, List.length_nil]; omega)) only [go_sem, reduceCtorEq, Nat.reduceEqDiff, Nat.reduceAdd, Nat.reduceSub, Nat.reduceMul, Nat.reduceLeDiff, Int.reduceLT, Int.reduceLE, Int.reduceEq, ↓reduceIte, Int.reduceNeg, Int.reduceAdd, Int.reduceSub, Int.reduceMul, true_imp_iff, forall_const, Nat.mul_one, Int.reduceToNat, Nat.reducePow, Int.reducePow, Bool.true_and, Bool.false_and, Bool.and_false, rd, firstErr]
        exact retC_by (Drop.refl _) (.refl _) ⟨rfl, rfl⟩
      · have h2' : ¬ (s.length : Int) - p' < u := by omega
        rw [if_neg h2] at hq
        subst hq
        have e1 : (p' : Int) + u - u = p' := by omega
        have e2 : ((p' : Int) + u).toNat = p' + u := by omega
        simp (disch := first | assumption | omega | (simp only [List.length_append, List.length_cons, List.length_nil]; omega)) only [go_sem, reduceCtorEq, Nat.reduceEqDiff, Nat.reduceAdd, Nat.reduceSub, Nat.reduceMul, Nat.reduceLeDiff, Int.reduceLT, Int.reduceLE, Int.reduceEq, ↓reduceIte, Int.reduceNeg, Int.reduceAdd, Int.reduceSub, Int.reduceMul, true_imp_iff, forall_const, Nat.mul_one, Int.reduceToNat, Nat.reducePow, Int.reducePow, Bool.true_and, Bool.false_and, Bool.and_false, rd, hmx, h1', h2', e1, e2]
        refine retC_by (Drop.refl _) (.refl _) ⟨?_, rfl⟩
        rw [List.drop_take, Nat.add_sub_cancel_left]
        rfl
  · rw [if_pos he] at hq
    subst hq
    simp (disch := first | assumption | omega | (simp only [List.length_append, List.length_cons, List.length_nil]; omega)) only [go_sem, reduceCtorEq, Nat.reduceEqDiff, Nat.reduceAdd, Nat.reduceSub, Nat.reduceMul, Nat.reduceLeDiff, Int.reduceLT, Int.reduceLE, Int.reduceEq, ↓reduceIte, Int.reduceNeg, Int.reduceAdd, Int.reduceSub, Int.reduceMul, true_imp_iff, forall_const, Nat.mul_one, Int.reduceToNat, Nat.reducePow, Int.reducePow, Bool.true_and, Bool.false_and, Bool.and_false, rd, he]
    exact retC_by (Drop.refl _) (.refl _) ⟨rfl, rfl⟩

def countP (s : List UInt8) (p : Nat) (e : Int) (most : Nat) : Nat × Nat × Int :=
  if (readU s p e).2.2 ≠ 0 then (0, (readU s p e).2.1, (readU s p e).2.2)
  else if most < (readU s p e).1 then (0, (readU s p e).2.1, 11)
  else ((readU s p e).1, (readU s p e).2.1, 0)
/-- So far behind a number, and one. -/
def afterP (s : List UInt8) (p : Nat) (e : Int) (x : Int) : Int × Nat × Int :=
  if (readU s p e).2.2 = 0 ∧ 18446744073709551615 - x ≤ (readU s p e).1 then ((x + (readU s p e).1 + 1) % 18446744073709551616, (readU s p e).2.1, 3)
  else ((x + (readU s p e).1 + 1) % 18446744073709551616, (readU s p e).2.1, (readU s p e).2.2)
theorem afterP_facts (s : List UInt8) (p : Nat) (e : Int) (x : Int) (hp : p ≤ s.length) (h0 : 0 ≤ x) (h1 : x ≤ 18446744073709551615) : 0 ≤ (afterP s p e x).1 ∧ (afterP s p e x).1 ≤ 18446744073709551615 ∧ (afterP s p e x).2.1 ≤ s.length := by
  obtain ⟨f1, f2, f3, f4⟩ := readU_facts s p e hp
  unfold afterP
  split <;> (refine ⟨?_, ?_, f2⟩ <;> dsimp only <;> omega)
theorem countP_facts (s : List UInt8) (p : Nat) (e : Int) (most : Nat) (hp : p ≤ s.length) : (countP s p e most).1 ≤ most ∧ (countP s p e most).2.1 ≤ s.length := by
  obtain ⟨f1, f2, f3, f4⟩ := readU_facts s p e hp
  unfold countP
  split
  · exact ⟨Nat.zero_le _, f2⟩
  · split
    · exact ⟨Nat.zero_le _, f2⟩
    · exact ⟨by dsimp only; omega, f2⟩

/-- Numbers that rise, so many more of them. -/
def risF (s : List UInt8) : Nat → List Int → Nat → Int → List Int × Nat × Int
  | 0, l, p, e => (l, p, e)
  | k + 1, l, p, e => if e ≠ 0 then (l, p, e) else match l.getLast? with
    | none => risF s k (l ++ [((readU s p e).1 : Int)]) (readU s p e).2.1 (readU s p e).2.2
    | some x => risF s k (l ++ [(afterP s p e x).1]) (afterP s p e x).2.1 (afterP s p e x).2.2
def risingR (s : List UInt8) (p : Nat) (e : Int) (most : Nat) : List Int × Nat × Int :=
  if (risF s (countP s p e most).1 [] (countP s p e most).2.1 (countP s p e most).2.2).2.2 ≠ 0 then ([], (risF s (countP s p e most).1 [] (countP s p e most).2.1 (countP s p e most).2.2).2)
  else risF s (countP s p e most).1 [] (countP s p e most).2.1 (countP s p e most).2.2
theorem u64_well (L : List Int) : wellSz 1 (L.map (AV.int .u64)) = true := wellSz_map (f := AV.int .u64) (fun _ => ⟨rfl, rfl⟩) L
theorem last_at {l : List Int} {i : Nat} (h : l.length = i + 1) : ∃ x, l.getLast? = some x ∧ l[i]? = some x := by
  have hlt : i < l.length := by omega
  refine ⟨l[i], ?_, List.getElem?_eq_getElem hlt⟩
  rw [List.getLast?_eq_getElem?, show l.length - 1 = i by omega, List.getElem?_eq_getElem hlt]

end Go.A
