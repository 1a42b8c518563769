/- The reader's methods, walked: numbers. -/
import Derived.Test.YtmefepbdognkdaaGreatDoorVd
import Derived.Test.YtmefepbdognkdaaGreatDoorCodeVe
namespace Go.A
open Go.Proofs Go.Vint
set_option maxRecDepth 100000
set_option linter.unusedSimpArgs false
set_option linter.unusedVariables false

/-- A reader of these bytes, at a place, with an error. -/
def rd (s : List UInt8) (p : Nat) (e : Int) : Option Role := some (.obj [.str s, .int .i64 p, .int .i64 e])
theorem set_self {σ : ASt} {b : Nat} {r : Option Role} (h : σ b = r) : σ.set b r = σ := by
  funext x
  simp only [ASt.set]
  split
  · rename_i hx; rw [hx, h]
  · rfl
/-- The first error stays. -/
def firstErr (err e : Int) : Int := if err = 0 then e else err

theorem rread_ok (s : List UInt8) (σ : ASt) : ACalls Tryz.prog 31 [.str s] σ fun v σ' => ∃ b, v = .ptr b 0 ∧ σ b = none ∧ σ' = σ.set b (rd s 0 0) := by
  refine a31 (by simp) ?_
  simp (disch := first | assumption | omega | (simp only [List.length_append, List.length_cons, List.length_nil]; omega)) only [go_sem, reduceCtorEq, Nat.reduceEqDiff, Nat.reduceAdd, Nat.reduceSub, Nat.reduceMul, Nat.reduceLeDiff, Int.reduceLT, Int.reduceLE, Int.reduceEq, ↓reduceIte, Int.reduceNeg, Int.reduceAdd, Int.reduceSub, Int.reduceMul, true_imp_iff, forall_const, Nat.mul_one, Int.reduceToNat, Nat.reducePow, Int.reducePow, Bool.true_and, Bool.false_and, Bool.and_false]
  refine boxC_by rfl fun b hb => ?_
  simp (disch := first | assumption | omega | (simp only [List.length_append, List.length_cons, List.length_nil]; omega)) only [go_sem, reduceCtorEq, Nat.reduceEqDiff, Nat.reduceAdd, Nat.reduceSub, Nat.reduceMul, Nat.reduceLeDiff, Int.reduceLT, Int.reduceLE, Int.reduceEq, ↓reduceIte, Int.reduceNeg, Int.reduceAdd, Int.reduceSub, Int.reduceMul, true_imp_iff, forall_const, Nat.mul_one, Int.reduceToNat, Nat.reducePow, Int.reducePow, Bool.true_and, Bool.false_and, Bool.and_false]
  exact retC_by (Drop.refl _) (.refl _) ⟨b, rfl, hb, rfl⟩
theorem rerr_ok (s : List UInt8) (p : Nat) (e : Int) (b : Nat) (σ : ASt) (hb : σ b = rd s p e) : ACalls Tryz.prog 109 [.ptr b 0] σ fun v σ' => v = .int .i64 e ∧ σ' = σ := by
  refine a109 (by simp) ?_
  simp (disch := first | assumption | omega | (simp only [List.length_append, List.length_cons, List.length_nil]; omega)) only [go_sem, reduceCtorEq, Nat.reduceEqDiff, Nat.reduceAdd, Nat.reduceSub, Nat.reduceMul, Nat.reduceLeDiff, Int.reduceLT, Int.reduceLE, Int.reduceEq, ↓reduceIte, Int.reduceNeg, Int.reduceAdd, Int.reduceSub, Int.reduceMul, true_imp_iff, forall_const, Nat.mul_one, Int.reduceToNat, Nat.reducePow, Int.reducePow, Bool.true_and, Bool.false_and, Bool.and_false, hb, rd]
  exact retC_by (Drop.refl _) (.refl _) ⟨rfl, rfl⟩
theorem rfail_ok (s : List UInt8) (p : Nat) (e e0 : Int) (b : Nat) (σ : ASt) (hb : σ b = rd s p e) : ACalls Tryz.prog 112 [.ptr b 0, .int .i64 e0] σ fun v σ' => v = .tuple [] ∧ σ' = σ.set b (rd s p (firstErr e e0)) := by
  refine a112 (by simp) ?_
  by_cases he : e = 0
  · simp (disch := first | assumption | omega | (simp only [List.length_append, List.length_cons, List.length_nil]; omega)) only [go_sem, reduceCtorEq, Nat.reduceEqDiff, Nat.reduceAdd, Nat.reduceSub, Nat.reduceMul, Nat.reduceLeDiff, Int.reduceLT, Int.reduceLE, Int.reduceEq, ↓reduceIte, Int.reduceNeg, Int.reduceAdd, Int.reduceSub, Int.reduceMul, true_imp_iff, forall_const, Nat.mul_one, Int.reduceToNat, Nat.reducePow, Int.reducePow, Bool.true_and, Bool.false_and, Bool.and_false, hb, rd, he]
    exact retC_by (Drop.refl _) (.refl _) ⟨rfl, by simp [firstErr, he, rd]⟩
  · simp (disch := first | assumption | omega | (simp only [List.length_append, List.length_cons, List.length_nil]; omega)) only [go_sem, reduceCtorEq, Nat.reduceEqDiff, Nat.reduceAdd, Nat.reduceSub, Nat.reduceMul, Nat.reduceLeDiff, Int.reduceLT, Int.reduceLE, Int.reduceEq, ↓reduceIte, Int.reduceNeg, Int.reduceAdd, Int.reduceSub, Int.reduceMul, true_imp_iff, forall_const, Nat.mul_one, Int.reduceToNat, Nat.reducePow, Int.reducePow, Bool.true_and, Bool.false_and, Bool.and_false, hb, rd, he]
    refine retC_by (Drop.refl _) (.refl _) ⟨rfl, ?_⟩
    rw [show firstErr e e0 = e by simp [firstErr, he]]
    exact (set_self hb).symm
theorem rdone_ok (s : List UInt8) (p : Nat) (e : Int) (b : Nat) (σ : ASt) (hb : σ b = rd s p e) : ACalls Tryz.prog 36 [.ptr b 0] σ fun v σ' => v = .int .i64 (if p < s.length then firstErr e 3 else e) ∧ σ' = σ.set b (rd s p (if p < s.length then firstErr e 3 else e)) := by
  refine a36 (by simp) ?_
  by_cases h : p < s.length
  · have h' : (p : Int) < s.length := by omega
    rw [if_pos h]
    simp (disch := first | assumption | omega | (simp only [List.length_append, List.length_cons, List.length_nil]; omega)) only [go_sem, reduceCtorEq, Nat.reduceEqDiff, Nat.reduceAdd, Nat.reduceSub, Nat.reduceMul, Nat.reduceLeDiff, Int.reduceLT, Int.reduceLE, Int.reduceEq, ↓reduceIte, Int.reduceNeg, Int.reduceAdd, Int.reduceSub, Int.reduceMul, true_imp_iff, forall_const, Nat.mul_one, Int.reduceToNat, Nat.reducePow, Int.reducePow, Bool.true_and, Bool.false_and, Bool.and_false, hb, rd, h']
    refine (rfail_ok s p e 3 b _ hb).mono ?_
    rintro v σ' ⟨rfl, rfl⟩
    simp (disch := first | assumption | omega | (simp only [List.length_append, List.length_cons, List.length_nil]; omega)) only [go_sem, reduceCtorEq, Nat.reduceEqDiff, Nat.reduceAdd, Nat.reduceSub, Nat.reduceMul, Nat.reduceLeDiff, Int.reduceLT, Int.reduceLE, Int.reduceEq, ↓reduceIte, Int.reduceNeg, Int.reduceAdd, Int.reduceSub, Int.reduceMul, true_imp_iff, forall_const, Nat.mul_one, Int.reduceToNat, Nat.reducePow, Int.reducePow, Bool.true_and, Bool.false_and, Bool.and_false, rd]
    exact retC_by (Drop.refl _) (.refl _) ⟨rfl, rfl⟩
  · have h' : ¬ (p : Int) < s.length := by omega
    rw [if_neg h]
    simp (disch := first | assumption | omega | (simp only [List.length_append, List.length_cons, List.length_nil]; omega)) only [go_sem, reduceCtorEq, Nat.reduceEqDiff, Nat.reduceAdd, Nat.reduceSub, Nat.reduceMul, Nat.reduceLeDiff, Int.reduceLT, Int.reduceLE, Int.reduceEq, ↓reduceIte, Int.reduceNeg, Int.reduceAdd, Int.reduceSub, Int.reduceMul, true_imp_iff, forall_const, Nat.mul_one, Int.reduceToNat, Nat.reducePow, Int.reducePow, Bool.true_and, Bool.false_and, Bool.and_false, hb, rd, h']
    exact retC_by (Drop.refl _) (.refl _) ⟨rfl, (set_self hb).symm⟩

theorem or_sh {k U : Nat} {c : UInt8} (hk : k ≤ 9) (hU : U < 128 ^ k) (hc : k = 9 → (c.toNat : Int) ≤ 1) :
    ((BitVec.ofInt 64 (U : Int) ||| BitVec.ofInt 64 (IntKind.wrap .u64 (((BitVec.ofInt 8 (c.toNat : Int) &&& BitVec.ofInt 8 127).toNat : Int) * 2 ^ (7 * (k : Int)).toNat))).toNat : Int) = ((U + c.toNat % 128 * 128 ^ k : Nat) : Int) := by
  have h := or_shift hk hU hc
  rw [show (7 * (k : Int)).toNat = 7 * k by omega]
  have e1 : bits BinOp.and IntKind.u8 (c.toNat : Int) 127 = ((BitVec.ofInt 8 (c.toNat : Int) &&& BitVec.ofInt 8 127).toNat : Int) := by
    show IntKind.wrap .u8 ((BitVec.ofInt 8 (c.toNat : Int) &&& BitVec.ofInt 8 127).toNat : Int) = _
    rw [IntKind.wrap_u8, Int.emod_eq_of_lt (by omega) (by omega)]
  rw [e1, show IntKind.wrap .u64 ((BitVec.ofInt 8 (c.toNat : Int) &&& BitVec.ofInt 8 127).toNat : Int) = ((BitVec.ofInt 8 (c.toNat : Int) &&& BitVec.ofInt 8 127).toNat : Int) by
    rw [IntKind.wrap_u64, Int.emod_eq_of_lt (by omega) (by omega)]] at h
  have h' : IntKind.wrap .u64 ((BitVec.ofInt 64 (U : Int) ||| BitVec.ofInt 64 (IntKind.wrap .u64 (((BitVec.ofInt 8 (c.toNat : Int) &&& BitVec.ofInt 8 127).toNat : Int) * 2 ^ (7 * k)))).toNat : Int) = _ := h
  rwa [IntKind.wrap_u64, Int.emod_eq_of_lt (by omega) (by omega)] at h'

set_option maxHeartbeats 1000000 in
theorem ruint_ok (s : List UInt8) (p : Nat) (e : Int) (b : Nat) (σ : ASt) (hb : σ b = rd s p e) (hs : s.length ≤ 4611686018427387904) (hp : p ≤ s.length) :
    ACalls Tryz.prog 106 [.ptr b 0] σ fun v σ' => v = .int .u64 (readU s p e).1 ∧ σ' = σ.set b (rd s (readU s p e).2.1 (readU s p e).2.2) := by
  refine a106 (by simp) ?_
  by_cases he : e = 0
  · subst he
    obtain ⟨q, hq⟩ : ∃ q, scan 0 0 (s.drop p) = q := ⟨_, rfl⟩
    rw [readU_of hq]
    dsimp only
    simp (disch := first | assumption | omega | (simp only [List.length_append, List.length_cons, List.length_nil]; omega)) only [go_sem, reduceCtorEq, Nat.reduceEqDiff, Nat.reduceAdd, Nat.reduceSub, Nat.reduceMul, Nat.reduceLeDiff, Int.reduceLT, Int.reduceLE, Int.reduceEq, ↓reduceIte, Int.reduceNeg, Int.reduceAdd, Int.reduceSub, Int.reduceMul, true_imp_iff, forall_const, Nat.mul_one, Int.reduceToNat, Nat.reducePow, Int.reducePow, Bool.true_and, Bool.false_and, Bool.and_false]
    refine wp_loop_on (fun (i : Nat × Nat) a σ' => (i.1 ≤ 9 ∧ p + i.1 ≤ s.length ∧ i.2 < 128 ^ i.1 ∧ scan i.1 i.2 (s.drop (p + i.1)) = q) ∧ (a 0 = .ptr b 0 ∧ a 3 = .int .u64 i.2 ∧ a 4 = .int .i64 i.1) ∧ σ' = σ)
      (fun i => 10 - i.1) (0, 0) ⟨⟨by simp, by simpa using hp, by simp, by simpa using hq⟩, ?_, rfl⟩ ?_
    · simp (disch := first | assumption | omega | (simp only [List.length_append, List.length_cons, List.length_nil]; omega)) only [go_sem, reduceCtorEq, Nat.reduceEqDiff, Nat.reduceAdd, Nat.reduceSub, Nat.reduceMul, Nat.reduceLeDiff, Int.reduceLT, Int.reduceLE, Int.reduceEq, ↓reduceIte, Int.reduceNeg, Int.reduceAdd, Int.reduceSub, Int.reduceMul, true_imp_iff, forall_const, Nat.mul_one, Int.reduceToNat, Nat.reducePow, Int.reducePow, Bool.true_and, Bool.false_and, Bool.and_false]
    rintro ⟨k, U⟩ a σ1 ⟨⟨hk, hpk, hU, hsc⟩, hf, rfl⟩
    dsimp only at hk hpk hU hsc hf
    by_cases hlt : p + k < s.length
    · have hlt' : (p : Int) + k < s.length := by omega
      have hidx : s[p + k]? = some (s[p + k]'hlt) := List.getElem?_eq_getElem hlt
      obtain ⟨c, hc⟩ : ∃ c, s[p + k]'hlt = c := ⟨_, rfl⟩
      rw [hc] at hidx
      have hidx' : s[((p : Int) + k).toNat]? = some c := by rw [show ((p : Int) + k).toNat = p + k by omega]; exact hidx
      have hcb := u8_lt c
      rw [scan_step hidx] at hsc
      have r0 : ¬ (p : Int) + k < 0 := by omega
      by_cases hbad : (k = 9 ∧ 1 < c.toNat) ∨ (0 < k ∧ c.toNat = 0)
      · rw [if_pos hbad] at hsc
        subst hsc
        repeat' (first | (simp (disch := first | assumption | omega | (simp only [List.length_append, List.length_cons, List.length_nil]; omega)) only [go_sem, reduceCtorEq, Nat.reduceEqDiff, Nat.reduceAdd, Nat.reduceSub, Nat.reduceMul, Nat.reduceLeDiff, Int.reduceLT, Int.reduceLE, Int.reduceEq, ↓reduceIte, Int.reduceNeg, Int.reduceAdd, Int.reduceSub, Int.reduceMul, true_imp_iff, forall_const, Nat.mul_one, Int.reduceToNat, Nat.reducePow, Int.reducePow, Bool.true_and, Bool.false_and, Bool.and_false, hf, hb, rd, hlt', hidx']) | refine (rfail_ok s p 0 3 b _ hb).mono ?_ | with_reducible refine gC_d (fun h => ?_) (fun h => ?_) | with_reducible refine gC_dn (fun h => ?_) (fun h => ?_) | with_reducible refine condC_d (fun h => ?_) (fun h => ?_) | with_reducible refine condC_n (fun h => ?_) (fun h => ?_) | with_reducible refine condC_b (fun h => ?_) (fun h => ?_) | with_reducible refine boxC_by ?_ fun b hb => ?_)
        all_goals first
          | (exfalso; omega)
          | (rintro v σ' ⟨rfl, rfl⟩
             simp (disch := first | assumption | omega | (simp only [List.length_append, List.length_cons, List.length_nil]; omega)) only [go_sem, reduceCtorEq, Nat.reduceEqDiff, Nat.reduceAdd, Nat.reduceSub, Nat.reduceMul, Nat.reduceLeDiff, Int.reduceLT, Int.reduceLE, Int.reduceEq, ↓reduceIte, Int.reduceNeg, Int.reduceAdd, Int.reduceSub, Int.reduceMul, true_imp_iff, forall_const, Nat.mul_one, Int.reduceToNat, Nat.reducePow, Int.reducePow, Bool.true_and, Bool.false_and, Bool.and_false, hf, firstErr]
             exact retC_by (Drop.refl _) (.refl _) ⟨rfl, by simp [rd, firstErr]⟩)
      · rw [if_neg hbad] at hsc
        have hor := or_sh (k := k) (U := U) (c := c) (by omega) hU (by omega)
        have hbd := or_shift_bd (k := k) (U := U) (c := c) hU
        have hmn : mnb (7 * (k : Int)).toNat 64 = (7 * (k : Int)).toNat := mnb_le (by omega)
        by_cases hc7 : c.toNat < 128
        · have hc7' : (c.toNat : Int) < 128 := by omega
          rw [if_pos hc7] at hsc
          subst hsc
          repeat' (first | (simp (disch := first | assumption | omega | (simp only [List.length_append, List.length_cons, List.length_nil]; omega)) only [go_sem, reduceCtorEq, Nat.reduceEqDiff, Nat.reduceAdd, Nat.reduceSub, Nat.reduceMul, Nat.reduceLeDiff, Int.reduceLT, Int.reduceLE, Int.reduceEq, ↓reduceIte, Int.reduceNeg, Int.reduceAdd, Int.reduceSub, Int.reduceMul, true_imp_iff, forall_const, Nat.mul_one, Int.reduceToNat, Nat.reducePow, Int.reducePow, Bool.true_and, Bool.false_and, Bool.and_false, hf, hb, rd, hlt', hidx', hmn, hc7']) | with_reducible refine gC_d (fun h => ?_) (fun h => ?_) | with_reducible refine gC_dn (fun h => ?_) (fun h => ?_) | with_reducible refine condC_d (fun h => ?_) (fun h => ?_) | with_reducible refine condC_n (fun h => ?_) (fun h => ?_) | with_reducible refine condC_b (fun h => ?_) (fun h => ?_) | with_reducible refine boxC_by ?_ fun b hb => ?_)
          all_goals first
            | (exfalso; omega)
            | exact retC_by (Drop.refl _) (.refl _) ⟨congrArg (AV.int .u64) hor, rfl⟩
        · have hc7' : ¬ (c.toNat : Int) < 128 := by omega
          rw [if_neg hc7] at hsc
          repeat' (first | (simp (disch := first | assumption | omega | (simp only [List.length_append, List.length_cons, List.length_nil]; omega)) only [go_sem, reduceCtorEq, Nat.reduceEqDiff, Nat.reduceAdd, Nat.reduceSub, Nat.reduceMul, Nat.reduceLeDiff, Int.reduceLT, Int.reduceLE, Int.reduceEq, ↓reduceIte, Int.reduceNeg, Int.reduceAdd, Int.reduceSub, Int.reduceMul, true_imp_iff, forall_const, Nat.mul_one, Int.reduceToNat, Nat.reducePow, Int.reducePow, Bool.true_and, Bool.false_and, Bool.and_false, hf, hb, rd, hlt', hidx', hmn, hc7']) | with_reducible refine gC_d (fun h => ?_) (fun h => ?_) | with_reducible refine gC_dn (fun h => ?_) (fun h => ?_) | with_reducible refine condC_d (fun h => ?_) (fun h => ?_) | with_reducible refine condC_n (fun h => ?_) (fun h => ?_) | with_reducible refine condC_b (fun h => ?_) (fun h => ?_) | with_reducible refine boxC_by ?_ fun b hb => ?_)
          all_goals first
            | (exfalso; omega)
            | (refine ⟨(k + 1, U + c.toNat % 128 * 128 ^ k), by dsimp only; omega, ⟨by dsimp only; omega, by dsimp only; omega, hbd, hsc⟩, congrArg (AV.int .u64) hor, rfl⟩)
    · have hlt' : ¬ (p : Int) + k < s.length := by omega
      rw [scan_stop (by omega)] at hsc
      subst hsc
      simp (disch := first | assumption | omega | (simp only [List.length_append, List.length_cons, List.length_nil]; omega)) only [go_sem, reduceCtorEq, Nat.reduceEqDiff, Nat.reduceAdd, Nat.reduceSub, Nat.reduceMul, Nat.reduceLeDiff, Int.reduceLT, Int.reduceLE, Int.reduceEq, ↓reduceIte, Int.reduceNeg, Int.reduceAdd, Int.reduceSub, Int.reduceMul, true_imp_iff, forall_const, Nat.mul_one, Int.reduceToNat, Nat.reducePow, Int.reducePow, Bool.true_and, Bool.false_and, Bool.and_false, hf, hb, rd, hlt']
      refine (rfail_ok s p 0 2 b _ hb).mono ?_
      rintro v σ' ⟨rfl, rfl⟩
      simp (disch := first | assumption | omega | (simp only [List.length_append, List.length_cons, List.length_nil]; omega)) only [go_sem, reduceCtorEq, Nat.reduceEqDiff, Nat.reduceAdd, Nat.reduceSub, Nat.reduceMul, Nat.reduceLeDiff, Int.reduceLT, Int.reduceLE, Int.reduceEq, ↓reduceIte, Int.reduceNeg, Int.reduceAdd, Int.reduceSub, Int.reduceMul, true_imp_iff, forall_const, Nat.mul_one, Int.reduceToNat, Nat.reducePow, Int.reducePow, Bool.true_and, Bool.false_and, Bool.and_false, hf, firstErr]
      exact retC_by (Drop.refl _) (.refl _) ⟨rfl, by simp [rd, firstErr]⟩
  · have hr : readU s p e = (0, p, e) := by unfold readU; rw [if_pos he]
    rw [hr]
    dsimp only
    simp (disch := first | assumption | omega | (simp only [List.length_append, List.length_cons, List.length_nil]; omega)) only [go_sem, reduceCtorEq, Nat.reduceEqDiff, Nat.reduceAdd, Nat.reduceSub, Nat.reduceMul, Nat.reduceLeDiff, Int.reduceLT, Int.reduceLE, Int.reduceEq, ↓reduceIte, Int.reduceNeg, Int.reduceAdd, Int.reduceSub, Int.reduceMul, true_imp_iff, forall_const, Nat.mul_one, Int.reduceToNat, Nat.reducePow, Int.reducePow, Bool.true_and, Bool.false_and, Bool.and_false]
    refine wp_loop_on (fun (i : Unit) a σ' => a 0 = .ptr b 0 ∧ σ' = σ) (fun _ => 0) () ⟨by simp (disch := first | assumption | omega | (simp only [List.length_append, List.length_cons, List.length_nil]; omega)) only [go_sem, reduceCtorEq, Nat.reduceEqDiff, Nat.reduceAdd, Nat.reduceSub, Nat.reduceMul, Nat.reduceLeDiff, Int.reduceLT, Int.reduceLE, Int.reduceEq, ↓reduceIte, Int.reduceNeg, Int.reduceAdd, Int.reduceSub, Int.reduceMul, true_imp_iff, forall_const, Nat.mul_one, Int.reduceToNat, Nat.reducePow, Int.reducePow, Bool.true_and, Bool.false_and, Bool.and_false], rfl⟩ ?_
    rintro ⟨⟩ a σ1 ⟨h0, rfl⟩
    simp (disch := first | assumption | omega | (simp only [List.length_append, List.length_cons, List.length_nil]; omega)) only [go_sem, reduceCtorEq, Nat.reduceEqDiff, Nat.reduceAdd, Nat.reduceSub, Nat.reduceMul, Nat.reduceLeDiff, Int.reduceLT, Int.reduceLE, Int.reduceEq, ↓reduceIte, Int.reduceNeg, Int.reduceAdd, Int.reduceSub, Int.reduceMul, true_imp_iff, forall_const, Nat.mul_one, Int.reduceToNat, Nat.reducePow, Int.reducePow, Bool.true_and, Bool.false_and, Bool.and_false, h0, hb, rd, he]
    exact retC_by (Drop.refl _) (.refl _) ⟨rfl, (set_self hb).symm⟩
end Go.A
