/- Part 7 of what TabularPages leans on: Ve CodeVf Vf Vke CodeKr Kr CodeKl Kl Ks Kv Za Ms Mj Mr. -/
import Derived.Test.YtkbomeigndfbhaaDoorProg
import Derived.KernelRfl
import Derived.Lib.MapLaws
import Derived.Lib.RuneCount
import Derived.Test.YtkbomeigndfbhaaDoorRows
import Derived.ProofKit
import Derived.LaidMore
import Derived.OpenShut
import Derived.Stop.LaidErr
import Derived.MakeChecks
import Derived.SevenTiedAt
import Derived.Lay
import Derived.ChangeArms
import Derived.Lib.LaidU8
import Derived.Lib.LaidTab
import Derived.Test.YtkbomeigndfbhaaDoorZTabularPagesf
set_option linter.defProp false
set_option linter.unusedSimpArgs false
set_option linter.unusedVariables false
set_option maxRecDepth 100000
namespace Go.A
open Go.Proofs Go.Vint
def rd (s : List UInt8) (p : Nat) (e : Int) : Option Role := some (.obj [.str s, .int .i64 p, .int .i64 e])
theorem set_self {σ : ASt} {b : Nat} {r : Option Role} (h : σ b = r) : σ.set b r = σ := by
 funext x
 simp only [ASt.set]
 split
 ·rename_i hx; rw [hx, h]
 ·rfl
def firstErr (err e : Int) : Int := if err = 0 then e else err
theorem rread_ok (s : List UInt8) (σ : ASt) : ACalls Tryd.prog 20 [.str s] σ fun v σ' => ∃ b, v = .ptr b 0 ∧ σ b = none ∧ σ' = σ.set b (rd s 0 0) := by
 refine a20 (by simp) ?_
 simp (disch := first | assumption | omega | (simp only [List.length_append, List.length_cons, List.length_nil]; omega)) only [go_sem, reduceCtorEq, Nat.reduceEqDiff, Nat.reduceAdd, Nat.reduceSub, Nat.reduceMul, Nat.reduceLeDiff, Int.reduceLT, Int.reduceLE, Int.reduceEq, ↓reduceIte, Int.reduceNeg, Int.reduceAdd, Int.reduceSub, Int.reduceMul, true_imp_iff, forall_const, Nat.mul_one, Int.reduceToNat, Nat.reducePow, Int.reducePow, Bool.true_and, Bool.false_and, Bool.and_false]
 refine boxC_by rfl fun b hb => ?_
 simp (disch := first | assumption | omega | (simp only [List.length_append, List.length_cons, List.length_nil]; omega)) only [go_sem, reduceCtorEq, Nat.reduceEqDiff, Nat.reduceAdd, Nat.reduceSub, Nat.reduceMul, Nat.reduceLeDiff, Int.reduceLT, Int.reduceLE, Int.reduceEq, ↓reduceIte, Int.reduceNeg, Int.reduceAdd, Int.reduceSub, Int.reduceMul, true_imp_iff, forall_const, Nat.mul_one, Int.reduceToNat, Nat.reducePow, Int.reducePow, Bool.true_and, Bool.false_and, Bool.and_false]
 exact retC_by (Drop.refl _) (.refl _) ⟨b, rfl, hb, rfl⟩
theorem rfail_ok (s : List UInt8) (p : Nat) (e e0 : Int) (b : Nat) (σ : ASt) (hb : σ b = rd s p e) : ACalls Tryd.prog 43 [.ptr b 0, .int .i64 e0] σ fun v σ' => v = .tuple [] ∧ σ' = σ.set b (rd s p (firstErr e e0)) := by
 refine a43 (by simp) ?_
 by_cases he : e = 0
 ·simp (disch := first | assumption | omega | (simp only [List.length_append, List.length_cons, List.length_nil]; omega)) only [go_sem, reduceCtorEq, Nat.reduceEqDiff, Nat.reduceAdd, Nat.reduceSub, Nat.reduceMul, Nat.reduceLeDiff, Int.reduceLT, Int.reduceLE, Int.reduceEq, ↓reduceIte, Int.reduceNeg, Int.reduceAdd, Int.reduceSub, Int.reduceMul, true_imp_iff, forall_const, Nat.mul_one, Int.reduceToNat, Nat.reducePow, Int.reducePow, Bool.true_and, Bool.false_and, Bool.and_false, hb, rd, he]
  exact retC_by (Drop.refl _) (.refl _) ⟨rfl, by simp [firstErr, he, rd]⟩
 ·simp (disch := first | assumption | omega | (simp only [List.length_append, List.length_cons, List.length_nil]; omega)) only [go_sem, reduceCtorEq, Nat.reduceEqDiff, Nat.reduceAdd, Nat.reduceSub, Nat.reduceMul, Nat.reduceLeDiff, Int.reduceLT, Int.reduceLE, Int.reduceEq, ↓reduceIte, Int.reduceNeg, Int.reduceAdd, Int.reduceSub, Int.reduceMul, true_imp_iff, forall_const, Nat.mul_one, Int.reduceToNat, Nat.reducePow, Int.reducePow, Bool.true_and, Bool.false_and, Bool.and_false, hb, rd, he]
  refine retC_by (Drop.refl _) (.refl _) ⟨rfl, ?_⟩
  rw [show firstErr e e0 = e by simp [firstErr, he]]
  exact (set_self hb).symm
theorem rdone_ok (s : List UInt8) (p : Nat) (e : Int) (b : Nat) (σ : ASt) (hb : σ b = rd s p e) : ACalls Tryd.prog 23 [.ptr b 0] σ fun v σ' => v = .int .i64 (if p < s.length then firstErr e 3 else e) ∧ σ' = σ.set b (rd s p (if p < s.length then firstErr e 3 else e)) := by
 refine a23 (by simp) ?_
 by_cases h : p < s.length
 ·have h' : (p : Int) < s.length := by omega
  rw [if_pos h]
  simp (disch := first | assumption | omega | (simp only [List.length_append, List.length_cons, List.length_nil]; omega)) only [go_sem, reduceCtorEq, Nat.reduceEqDiff, Nat.reduceAdd, Nat.reduceSub, Nat.reduceMul, Nat.reduceLeDiff, Int.reduceLT, Int.reduceLE, Int.reduceEq, ↓reduceIte, Int.reduceNeg, Int.reduceAdd, Int.reduceSub, Int.reduceMul, true_imp_iff, forall_const, Nat.mul_one, Int.reduceToNat, Nat.reducePow, Int.reducePow, Bool.true_and, Bool.false_and, Bool.and_false, hb, rd, h']
  refine (rfail_ok s p e 3 b _ hb).mono ?_
  rintro v σ' ⟨rfl, rfl⟩
  simp (disch := first | assumption | omega | (simp only [List.length_append, List.length_cons, List.length_nil]; omega)) only [go_sem, reduceCtorEq, Nat.reduceEqDiff, Nat.reduceAdd, Nat.reduceSub, Nat.reduceMul, Nat.reduceLeDiff, Int.reduceLT, Int.reduceLE, Int.reduceEq, ↓reduceIte, Int.reduceNeg, Int.reduceAdd, Int.reduceSub, Int.reduceMul, true_imp_iff, forall_const, Nat.mul_one, Int.reduceToNat, Nat.reducePow, Int.reducePow, Bool.true_and, Bool.false_and, Bool.and_false, rd]
  exact retC_by (Drop.refl _) (.refl _) ⟨rfl, rfl⟩
 ·have h' : ¬ (p : Int) < s.length := by omega
  rw [if_neg h]
  simp (disch := first | assumption | omega | (simp only [List.length_append, List.length_cons, List.length_nil]; omega)) only [go_sem, reduceCtorEq, Nat.reduceEqDiff, Nat.reduceAdd, Nat.reduceSub, Nat.reduceMul, Nat.reduceLeDiff, Int.reduceLT, Int.reduceLE, Int.reduceEq, ↓reduceIte, Int.reduceNeg, Int.reduceAdd, Int.reduceSub, Int.reduceMul, true_imp_iff, forall_const, Nat.mul_one, Int.reduceToNat, Nat.reducePow, Int.reducePow, Bool.true_and, Bool.false_and, Bool.and_false, hb, rd, h']
  exact retC_by (Drop.refl _) (.refl _) ⟨rfl, (set_self hb).symm⟩
theorem or_sh {k U : Nat} {c : UInt8} (hk : k ≤ 9) (hU : U < 128 ^ k) (hc : k = 9 → (c.toNat : Int) ≤ 1) :
  ((BitVec.ofInt 64 (U : Int) ||| BitVec.ofInt 64 (IntKind.wrap .u64 (((BitVec.ofInt 8 (c.toNat : Int) &&& BitVec.ofInt 8 127).toNat : Int) * 2 ^ (7 * (k : Int)).toNat))).toNat : Int) = ((U + c.toNat % 128 * 128 ^ k : Nat) : Int) := by
 have h := or_shift hk hU hc
 rw [show (7 * (k : Int)).toNat = 7 * k by omega]
 have e1 : bits BinOp.and IntKind.u8 (c.toNat : Int) 127 = ((BitVec.ofInt 8 (c.toNat : Int) &&& BitVec.ofInt 8 127).toNat : Int) := by
  show IntKind.wrap .u8 ((BitVec.ofInt 8 (c.toNat : Int) &&& BitVec.ofInt 8 127).toNat : Int) = _
  rw [IntKind.wrap_u8, Int.emod_eq_of_lt (by omega) (by omega)]
 rw [e1, show IntKind.wrap .u64 ((BitVec.ofInt 8 (c.toNat : Int) &&& BitVec.ofInt 8 127).toNat : Int) = ((BitVec.ofInt 8 (c.toNat : Int) &&& BitVec.ofInt 8 127).toNat : Int) by
  rw [IntKind.wrap_u64, Int.emod_eq_of_lt (by omega) (by omega)]] at h
 have h' : IntKind.wrap .u64 ((BitVec.ofInt 64 (U : Int) ||| BitVec.ofInt 64 (IntKind.wrap .u64 (((BitVec.ofInt 8 (c.toNat : Int) &&& BitVec.ofInt 8 127).toNat : Int) * 2 ^ (7 * k)))).toNat : Int) = _ := h
 rwa [IntKind.wrap_u64, Int.emod_eq_of_lt (by omega) (by omega)] at h'
set_option maxHeartbeats 1000000 in
theorem ruint_ok (s : List UInt8) (p : Nat) (e : Int) (b : Nat) (σ : ASt) (hb : σ b = rd s p e) (hs : s.length ≤ 4611686018427387904) (hp : p ≤ s.length) :
  ACalls Tryd.prog 42 [.ptr b 0] σ fun v σ' => v = .int .u64 (readU s p e).1 ∧ σ' = σ.set b (rd s (readU s p e).2.1 (readU s p e).2.2) := by
 refine a42 (by simp) ?_
 by_cases he : e = 0
 ·subst he
  obtain ⟨q, hq⟩ : ∃ q, scan 0 0 (s.drop p) = q := ⟨_, rfl⟩
  rw [readU_of hq]
  dsimp only
  simp (disch := first | assumption | omega | (simp only [List.length_append, List.length_cons, List.length_nil]; omega)) only [go_sem, reduceCtorEq, Nat.reduceEqDiff, Nat.reduceAdd, Nat.reduceSub, Nat.reduceMul, Nat.reduceLeDiff, Int.reduceLT, Int.reduceLE, Int.reduceEq, ↓reduceIte, Int.reduceNeg, Int.reduceAdd, Int.reduceSub, Int.reduceMul, true_imp_iff, forall_const, Nat.mul_one, Int.reduceToNat, Nat.reducePow, Int.reducePow, Bool.true_and, Bool.false_and, Bool.and_false]
  refine wp_loop_on (fun (i : Nat × Nat) a σ' => (i.1 ≤ 9 ∧ p + i.1 ≤ s.length ∧ i.2 < 128 ^ i.1 ∧ scan i.1 i.2 (s.drop (p + i.1)) = q) ∧ (a 0 = .ptr b 0 ∧ a 3 = .int .u64 i.2 ∧ a 4 = .int .i64 i.1) ∧ σ' = σ)
   (fun i => 10 - i.1) (0, 0) ⟨⟨by simp, by simpa using hp, by simp, by simpa using hq⟩, ?_, rfl⟩ ?_
  ·simp (disch := first | assumption | omega | (simp only [List.length_append, List.length_cons, List.length_nil]; omega)) only [go_sem, reduceCtorEq, Nat.reduceEqDiff, Nat.reduceAdd, Nat.reduceSub, Nat.reduceMul, Nat.reduceLeDiff, Int.reduceLT, Int.reduceLE, Int.reduceEq, ↓reduceIte, Int.reduceNeg, Int.reduceAdd, Int.reduceSub, Int.reduceMul, true_imp_iff, forall_const, Nat.mul_one, Int.reduceToNat, Nat.reducePow, Int.reducePow, Bool.true_and, Bool.false_and, Bool.and_false]
  rintro ⟨k, U⟩ a σ1 ⟨⟨hk, hpk, hU, hsc⟩, hf, rfl⟩
  dsimp only at hk hpk hU hsc hf
  by_cases hlt : p + k < s.length
  ·have hlt' : (p : Int) + k < s.length := by omega
   have hidx : s[p + k]? = some (s[p + k]'hlt) := List.getElem?_eq_getElem hlt
   obtain ⟨c, hc⟩ : ∃ c, s[p + k]'hlt = c := ⟨_, rfl⟩
   rw [hc] at hidx
   have hidx' : s[((p : Int) + k).toNat]? = some c := by rw [show ((p : Int) + k).toNat = p + k by omega]; exact hidx
   have hcb := u8_lt c
   rw [scan_step hidx] at hsc
   have r0 : ¬ (p : Int) + k < 0 := by omega
   by_cases hbad : (k = 9 ∧ 1 < c.toNat) ∨ (0 < k ∧ c.toNat = 0)
   ·rw [if_pos hbad] at hsc
    subst hsc
    repeat' (first | (simp (disch := first | assumption | omega | (simp only [List.length_append, List.length_cons, List.length_nil]; omega)) only [go_sem, reduceCtorEq, Nat.reduceEqDiff, Nat.reduceAdd, Nat.reduceSub, Nat.reduceMul, Nat.reduceLeDiff, Int.reduceLT, Int.reduceLE, Int.reduceEq, ↓reduceIte, Int.reduceNeg, Int.reduceAdd, Int.reduceSub, Int.reduceMul, true_imp_iff, forall_const, Nat.mul_one, Int.reduceToNat, Nat.reducePow, Int.reducePow, Bool.true_and, Bool.false_and, Bool.and_false, hf, hb, rd, hlt', hidx']) | refine (rfail_ok s p 0 3 b _ hb).mono ?_ | with_reducible refine gC_d (fun h => ?_) (fun h => ?_) | with_reducible refine gC_dn (fun h => ?_) (fun h => ?_) | with_reducible refine condC_d (fun h => ?_) (fun h => ?_) | with_reducible refine condC_n (fun h => ?_) (fun h => ?_) | with_reducible refine condC_b (fun h => ?_) (fun h => ?_) | with_reducible refine boxC_by ?_ fun b hb => ?_)
    all_goals first
     | (exfalso; omega)
     | (rintro v σ' ⟨rfl, rfl⟩
        simp (disch := first | assumption | omega | (simp only [List.length_append, List.length_cons, List.length_nil]; omega)) only [go_sem, reduceCtorEq, Nat.reduceEqDiff, Nat.reduceAdd, Nat.reduceSub, Nat.reduceMul, Nat.reduceLeDiff, Int.reduceLT, Int.reduceLE, Int.reduceEq, ↓reduceIte, Int.reduceNeg, Int.reduceAdd, Int.reduceSub, Int.reduceMul, true_imp_iff, forall_const, Nat.mul_one, Int.reduceToNat, Nat.reducePow, Int.reducePow, Bool.true_and, Bool.false_and, Bool.and_false, hf, firstErr]
        exact retC_by (Drop.refl _) (.refl _) ⟨rfl, by simp [rd, firstErr]⟩)
   ·rw [if_neg hbad] at hsc
    have hor := or_sh (k := k) (U := U) (c := c) (by omega) hU (by omega)
    have hbd := or_shift_bd (k := k) (U := U) (c := c) hU
    have hmn : mnb (7 * (k : Int)).toNat 64 = (7 * (k : Int)).toNat := mnb_le (by omega)
    by_cases hc7 : c.toNat < 128
    ·have hc7' : (c.toNat : Int) < 128 := by omega
     rw [if_pos hc7] at hsc
     subst hsc
     repeat' (first | (simp (disch := first | assumption | omega | (simp only [List.length_append, List.length_cons, List.length_nil]; omega)) only [go_sem, reduceCtorEq, Nat.reduceEqDiff, Nat.reduceAdd, Nat.reduceSub, Nat.reduceMul, Nat.reduceLeDiff, Int.reduceLT, Int.reduceLE, Int.reduceEq, ↓reduceIte, Int.reduceNeg, Int.reduceAdd, Int.reduceSub, Int.reduceMul, true_imp_iff, forall_const, Nat.mul_one, Int.reduceToNat, Nat.reducePow, Int.reducePow, Bool.true_and, Bool.false_and, Bool.and_false, hf, hb, rd, hlt', hidx', hmn, hc7']) | with_reducible refine gC_d (fun h => ?_) (fun h => ?_) | with_reducible refine gC_dn (fun h => ?_) (fun h => ?_) | with_reducible refine condC_d (fun h => ?_) (fun h => ?_) | with_reducible refine condC_n (fun h => ?_) (fun h => ?_) | with_reducible refine condC_b (fun h => ?_) (fun h => ?_) | with_reducible refine boxC_by ?_ fun b hb => ?_)
     all_goals first
      | (exfalso; omega)
      | exact retC_by (Drop.refl _) (.refl _) ⟨congrArg (AV.int .u64) hor, rfl⟩
    ·have hc7' : ¬ (c.toNat : Int) < 128 := by omega
     rw [if_neg hc7] at hsc
     repeat' (first | (simp (disch := first | assumption | omega | (simp only [List.length_append, List.length_cons, List.length_nil]; omega)) only [go_sem, reduceCtorEq, Nat.reduceEqDiff, Nat.reduceAdd, Nat.reduceSub, Nat.reduceMul, Nat.reduceLeDiff, Int.reduceLT, Int.reduceLE, Int.reduceEq, ↓reduceIte, Int.reduceNeg, Int.reduceAdd, Int.reduceSub, Int.reduceMul, true_imp_iff, forall_const, Nat.mul_one, Int.reduceToNat, Nat.reducePow, Int.reducePow, Bool.true_and, Bool.false_and, Bool.and_false, hf, hb, rd, hlt', hidx', hmn, hc7']) | with_reducible refine gC_d (fun h => ?_) (fun h => ?_) | with_reducible refine gC_dn (fun h => ?_) (fun h => ?_) | with_reducible refine condC_d (fun h => ?_) (fun h => ?_) | with_reducible refine condC_n (fun h => ?_) (fun h => ?_) | with_reducible refine condC_b (fun h => ?_) (fun h => ?_) | with_reducible refine boxC_by ?_ fun b hb => ?_)
     all_goals first
      | (exfalso; omega)
      | (refine ⟨(k + 1, U + c.toNat % 128 * 128 ^ k), by dsimp only; omega, ⟨by dsimp only; omega, by dsimp only; omega, hbd, hsc⟩, congrArg (AV.int .u64) hor, rfl⟩)
  ·have hlt' : ¬ (p : Int) + k < s.length := by omega
   rw [scan_stop (by omega)] at hsc
   subst hsc
   simp (disch := first | assumption | omega | (simp only [List.length_append, List.length_cons, List.length_nil]; omega)) only [go_sem, reduceCtorEq, Nat.reduceEqDiff, Nat.reduceAdd, Nat.reduceSub, Nat.reduceMul, Nat.reduceLeDiff, Int.reduceLT, Int.reduceLE, Int.reduceEq, ↓reduceIte, Int.reduceNeg, Int.reduceAdd, Int.reduceSub, Int.reduceMul, true_imp_iff, forall_const, Nat.mul_one, Int.reduceToNat, Nat.reducePow, Int.reducePow, Bool.true_and, Bool.false_and, Bool.and_false, hf, hb, rd, hlt']
   refine (rfail_ok s p 0 2 b _ hb).mono ?_
   rintro v σ' ⟨rfl, rfl⟩
   simp (disch := first | assumption | omega | (simp only [List.length_append, List.length_cons, List.length_nil]; omega)) only [go_sem, reduceCtorEq, Nat.reduceEqDiff, Nat.reduceAdd, Nat.reduceSub, Nat.reduceMul, Nat.reduceLeDiff, Int.reduceLT, Int.reduceLE, Int.reduceEq, ↓reduceIte, Int.reduceNeg, Int.reduceAdd, Int.reduceSub, Int.reduceMul, true_imp_iff, forall_const, Nat.mul_one, Int.reduceToNat, Nat.reducePow, Int.reducePow, Bool.true_and, Bool.false_and, Bool.and_false, hf, firstErr]
   exact retC_by (Drop.refl _) (.refl _) ⟨rfl, by simp [rd, firstErr]⟩
 ·have hr : readU s p e = (0, p, e) := by unfold readU; rw [if_pos he]
  rw [hr]
  dsimp only
  simp (disch := first | assumption | omega | (simp only [List.length_append, List.length_cons, List.length_nil]; omega)) only [go_sem, reduceCtorEq, Nat.reduceEqDiff, Nat.reduceAdd, Nat.reduceSub, Nat.reduceMul, Nat.reduceLeDiff, Int.reduceLT, Int.reduceLE, Int.reduceEq, ↓reduceIte, Int.reduceNeg, Int.reduceAdd, Int.reduceSub, Int.reduceMul, true_imp_iff, forall_const, Nat.mul_one, Int.reduceToNat, Nat.reducePow, Int.reducePow, Bool.true_and, Bool.false_and, Bool.and_false]
  refine wp_loop_on (fun (i : Unit) a σ' => a 0 = .ptr b 0 ∧ σ' = σ) (fun _ => 0) () ⟨by simp (disch := first | assumption | omega | (simp only [List.length_append, List.length_cons, List.length_nil]; omega)) only [go_sem, reduceCtorEq, Nat.reduceEqDiff, Nat.reduceAdd, Nat.reduceSub, Nat.reduceMul, Nat.reduceLeDiff, Int.reduceLT, Int.reduceLE, Int.reduceEq, ↓reduceIte, Int.reduceNeg, Int.reduceAdd, Int.reduceSub, Int.reduceMul, true_imp_iff, forall_const, Nat.mul_one, Int.reduceToNat, Nat.reducePow, Int.reducePow, Bool.true_and, Bool.false_and, Bool.and_false], rfl⟩ ?_
  rintro ⟨⟩ a σ1 ⟨h0, rfl⟩
  simp (disch := first | assumption | omega | (simp only [List.length_append, List.length_cons, List.length_nil]; omega)) only [go_sem, reduceCtorEq, Nat.reduceEqDiff, Nat.reduceAdd, Nat.reduceSub, Nat.reduceMul, Nat.reduceLeDiff, Int.reduceLT, Int.reduceLE, Int.reduceEq, ↓reduceIte, Int.reduceNeg, Int.reduceAdd, Int.reduceSub, Int.reduceMul, true_imp_iff, forall_const, Nat.mul_one, Int.reduceToNat, Nat.reducePow, Int.reducePow, Bool.true_and, Bool.false_and, Bool.and_false, h0, hb, rd, he]
  exact retC_by (Drop.refl _) (.refl _) ⟨rfl, (set_self hb).symm⟩
end Go.A
namespace Go.A
open Go.Proofs
/-! 22: (*tabular/vint.Reader).Text -/
def c22_23 : ACode := .seq (.ops [ oq 4 (.mv (.v (.str [])))]) (.seq (.ops [ oq 6 (.mv (.t 0)), oe 7 (.call 42 [(.t 6)]), oq 5 (.mv (.t 7))]) (.seq (.seq (.ops [ oq 8 (.mv (.t 0)), oq 9 (.nc (.t 8)), oq 10 (.fa 2 (.t 9)), oq 11 (.ld none (.t 10)), oq 12 (.bin .eql (.t 11) (.v (.int .i64 0))), oq 13 (.mv (.t 12)), ⟨some 14, some (13, true), .q (.mv (.t 5)), []⟩, ⟨some 15, some (13, true), .q (.mv (.t 1)), []⟩, ⟨some 16, some (13, true), .q (.mnx true (.t 15) (.v (.int .i64 0))), []⟩, ⟨some 17, some (13, true), .q (.conv .u64 (.t 16)), []⟩, ⟨some 18, some (13, true), .q (.bin .gtr (.t 14) (.t 17)), []⟩, oq 19 (.pick (.t 13) (.t 18) (.v (.bool false)))]) (.cond (.t 19) (.ops [ oq 20 (.mv (.t 0)), oe 21 (.call 43 [(.t 20), (.v (.int .i64 11))])]) .skip)) (.seq (.seq (.ops [ oq 22 (.mv (.t 0)), oq 23 (.nc (.t 22)), oq 24 (.fa 2 (.t 23)), oq 25 (.ld none (.t 24)), oq 26 (.bin .eql (.t 25) (.v (.int .i64 0))), oq 27 (.mv (.t 26)), ⟨some 28, some (27, true), .q (.mv (.t 5)), []⟩, ⟨some 29, some (27, true), .q (.mv (.t 0)), []⟩, ⟨some 30, some (27, true), .q (.nc (.t 29)), []⟩, ⟨some 31, some (27, true), .q (.fa 0 (.t 30)), []⟩, ⟨some 32, some (27, true), .q (.ld none (.t 31)), []⟩, ⟨some 33, some (27, true), .q (.lenS (.t 32)), []⟩, ⟨some 34, some (27, true), .q (.mv (.t 0)), []⟩, ⟨some 35, some (27, true), .q (.nc (.t 34)), []⟩, ⟨some 36, some (27, true), .q (.fa 1 (.t 35)), []⟩, ⟨some 37, some (27, true), .q (.ld none (.t 36)), []⟩, ⟨some 38, some (27, true), .q (.bin .sub (.t 33) (.t 37)), []⟩, ⟨some 39, some (27, true), .q (.conv .u64 (.t 38)), []⟩, ⟨some 40, some (27, true), .q (.bin .gtr (.t 28) (.t 39)), []⟩, oq 41 (.pick (.t 27) (.t 40) (.v (.bool false)))]) (.cond (.t 41) (.ops [ oq 42 (.mv (.t 0)), oe 43 (.call 43 [(.t 42), (.v (.int .i64 2))])]) .skip)) (.seq (.seq (.ops [ oq 44 (.mv (.t 0)), oq 45 (.nc (.t 44)), oq 46 (.fa 2 (.t 45)), oq 47 (.ld none (.t 46)), oq 48 (.bin .neq (.t 47) (.v (.int .i64 0)))]) (.cond (.t 48) (.seq (.ops [ oq 4 (.mv (.v (.str [])))]) .ret) .skip)) (.seq (.ops [ oq 49 (.mv (.t 0)), oq 50 (.nc (.t 49)), oq 51 (.fa 1 (.t 50)), oq 52 (.ld none (.t 51)), oq 53 (.mv (.t 5)), oq 54 (.conv .i64 (.t 53)), oq 55 (.bin .add (.t 52) (.t 54)), oq 56 (.nc (.t 49)), oq 57 (.fa 1 (.t 56)), oz (.store 1 (.t 57) (.t 55))]) (.seq (.ops [ oq 58 (.mv (.t 0)), oq 59 (.nc (.t 58)), oq 60 (.fa 0 (.t 59)), oq 61 (.ld none (.t 60)), oq 62 (.mv (.t 0)), oq 63 (.nc (.t 62)), oq 64 (.fa 1 (.t 63)), oq 65 (.ld none (.t 64)), oq 66 (.mv (.t 5)), oq 67 (.conv .i64 (.t 66)), oq 68 (.bin .sub (.t 65) (.t 67)), oq 69 (.mv (.t 0)), oq 70 (.nc (.t 69)), oq 71 (.fa 1 (.t 70)), oq 72 (.ld none (.t 71)), oq 73 (.sls (true, 0) (.t 61) (.t 68) (.t 72)), oq 4 (.mv (.t 73))]) .ret))))))
@[go_sem] def c22_23_wp := wp_of c22_23.eq_1
def c22 : AFn := ⟨74, [.t 4], c22_23⟩
theorem c22_ok : compF Tryd.prog Tryd.f22 = some c22 := by kernel_rfl
theorem a22 {args : List AV} {σ : ASt} {R : AV → ASt → Prop} (hl : args.length ≤ 74) (h : c22_23.wp Tryd.prog (RetQ [.t 4] R) (init args) σ) : ACalls Tryd.prog 22 args σ R := acalls_of Tryd.func22 c22_ok hl h
end Go.A
namespace Go.A
open Go.Proofs Go.Vint
theorem scan_facts : ∀ (l : List UInt8) (k U : Nat), U < 128 ^ k → k ≤ 9 → (scan k U l).2.1 < 18446744073709551616 ∧ (scan k U l).2.2 ≤ k + l.length ∧ ((scan k U l).1 = 0 ∨ (scan k U l).1 = 2 ∧ (scan k U l).2.1 = 0 ∧ (scan k U l).2.2 = 0 ∨ (scan k U l).1 = 3 ∧ (scan k U l).2.1 = 0 ∧ (scan k U l).2.2 = 0)
 | [], k, U, hU, hk => by simp [scan]
 | c :: r, k, U, hU, hk => by
   have hbd := or_shift_bd (k := k) (U := U) (c := c) hU
   have hcb := c.toNat_lt
   unfold scan
   split
   ·simp
   ·rename_i hbad
    split
    ·refine ⟨?_, by simp only [List.length_cons]; omega, .inl rfl⟩
     dsimp only
     rcases Nat.lt_or_ge k 9 with h | h
     ·have h2 : 128 ^ (k + 1) ≤ 128 ^ 9 := Nat.pow_le_pow_right (by omega) (by omega)
      have e9 : (128 : Nat) ^ 9 = 9223372036854775808 := by decide
      omega
     ·obtain rfl : k = 9 := by omega
      have e9 : (128 : Nat) ^ 9 = 9223372036854775808 := by decide
      rw [e9] at hU ⊢
      have : c.toNat ≤ 1 := by omega
      omega
    ·have hk9 : k ≠ 9 := by omega
     have ih := scan_facts r (k + 1) (U + c.toNat % 128 * 128 ^ k) hbd (by omega)
     refine ⟨ih.1, by simp; omega, ih.2.2⟩
theorem readU_facts (s : List UInt8) (p : Nat) (e : Int) (hp : p ≤ s.length) : (readU s p e).1 < 18446744073709551616 ∧ (readU s p e).2.1 ≤ s.length ∧ ((readU s p e).2.2 ≠ 0 → (readU s p e).1 = 0 ∧ (readU s p e).2.1 = p) ∧ (e ≠ 0 → (readU s p e).2.2 = e) := by
 unfold readU
 by_cases he : e ≠ 0
 ·rw [if_pos he]; simp; exact hp
 ·rw [if_neg he]
  obtain ⟨h1, h2, h3⟩ := scan_facts (s.drop p) 0 0 (by simp) (by omega)
  refine ⟨h1, by simp at h2 ⊢; omega, fun h => ?_, fun h => absurd h he⟩
  dsimp only at h ⊢
  omega
def rtxP (s : List UInt8) (p : Nat) (e : Int) (most : Nat) : List UInt8 × Nat × Int :=
 if (readU s p e).2.2 ≠ 0 then ([], (readU s p e).2.1, (readU s p e).2.2)
 else if most < (readU s p e).1 then ([], (readU s p e).2.1, 11)
 else if s.length < (readU s p e).2.1 + (readU s p e).1 then ([], (readU s p e).2.1, 2)
 else ((s.drop (readU s p e).2.1).take (readU s p e).1, (readU s p e).2.1 + (readU s p e).1, 0)
theorem rtext_ok (s : List UInt8) (p : Nat) (e : Int) (most : Nat) (b : Nat) (σ : ASt) (hb : σ b = rd s p e) (hs : s.length ≤ 4611686018427387904) (hp : p ≤ s.length) (hm : most ≤ 1000000) :
  ACalls Tryd.prog 22 [.ptr b 0, .int .i64 most] σ fun v σ' => v = .str (rtxP s p e most).1 ∧ σ' = σ.set b (rd s (rtxP s p e most).2.1 (rtxP s p e most).2.2) := by
 refine a22 (by simp) ?_
 obtain ⟨q, hq⟩ : ∃ q, rtxP s p e most = q := ⟨_, rfl⟩
 rw [hq]
 unfold rtxP at hq
 obtain ⟨f1, f2, f3, f4⟩ := readU_facts s p e hp
 simp (disch := first | assumption | omega | (simp only [List.length_append, List.length_cons, List.length_nil]; omega)) only [go_sem, reduceCtorEq, Nat.reduceEqDiff, Nat.reduceAdd, Nat.reduceSub, Nat.reduceMul, Nat.reduceLeDiff, Int.reduceLT, Int.reduceLE, Int.reduceEq, ↓reduceIte, Int.reduceNeg, Int.reduceAdd, Int.reduceSub, Int.reduceMul, true_imp_iff, forall_const, Nat.mul_one, Int.reduceToNat, Nat.reducePow, Int.reducePow, Bool.true_and, Bool.false_and, Bool.and_false]
 refine (ruint_ok s p e b σ hb hs hp).mono ?_
 rintro v σ' ⟨rfl, rfl⟩
 generalize readU s p e = R at *
 obtain ⟨u, p', e'⟩ := R
 dsimp only at *
 have hmx : max (most : Int) 0 = most := by omega
 by_cases he : e' = 0
 ·subst he
  rw [if_neg (by simp)] at hq
  by_cases h1 : most < u
  ·have h1' : (most : Int) < u := by omega
   rw [if_pos h1] at hq
   subst hq
   simp (disch := first | assumption | omega | (simp only [List.length_append, List.length_cons, List.length_nil]; omega)) only [go_sem, reduceCtorEq, Nat.reduceEqDiff, Nat.reduceAdd, Nat.reduceSub, Nat.reduceMul, Nat.reduceLeDiff, Int.reduceLT, Int.reduceLE, Int.reduceEq, ↓reduceIte, Int.reduceNeg, Int.reduceAdd, Int.reduceSub, Int.reduceMul, true_imp_iff, forall_const, Nat.mul_one, Int.reduceToNat, Nat.reducePow, Int.reducePow, Bool.true_and, Bool.false_and, Bool.and_false, rd, hmx, h1']
   refine (rfail_ok s p' 0 11 b _ (ASt.set_same _ _ _)).mono ?_
   rintro v σ' ⟨rfl, rfl⟩
   simp (disch := first | assumption | omega | (simp only [List.length_append, List.length_cons, List.length_nil]; omega)) only [go_sem, reduceCtorEq, Nat.reduceEqDiff, Nat.reduceAdd, Nat.reduceSub, Nat.reduceMul, Nat.reduceLeDiff, Int.reduceLT, Int.reduceLE, Int.reduceEq, ↓reduceIte, Int.reduceNeg, Int.reduceAdd, Int.reduceSub, Int.reduceMul, true_imp_iff, forall_const, Nat.mul_one, Int.reduceToNat, Nat.reducePow, Int.reducePow, Bool.true_and, Bool.false_and, Bool.and_false, rd, firstErr]
   exact retC_by (Drop.refl _) (.refl _) ⟨rfl, rfl⟩
  ·have h1' : ¬ (most : Int) < u := by omega
   rw [if_neg h1] at hq
   by_cases h2 : s.length < p' + u
   ·have h2' : (s.length : Int) - p' < u := by omega
    rw [if_pos h2] at hq
    subst hq
    simp (disch := first | assumption | omega | (simp only [List.length_append, List.length_cons, List.length_nil]; omega)) only [go_sem, reduceCtorEq, Nat.reduceEqDiff, Nat.reduceAdd, Nat.reduceSub, Nat.reduceMul, Nat.reduceLeDiff, Int.reduceLT, Int.reduceLE, Int.reduceEq, ↓reduceIte, Int.reduceNeg, Int.reduceAdd, Int.reduceSub, Int.reduceMul, true_imp_iff, forall_const, Nat.mul_one, Int.reduceToNat, Nat.reducePow, Int.reducePow, Bool.true_and, Bool.false_and, Bool.and_false, rd, hmx, h1', h2']
    refine (rfail_ok s p' 0 2 b _ (ASt.set_same _ _ _)).mono ?_
    rintro v σ' ⟨rfl, rfl⟩
    simp (disch := first | assumption | omega | (simp only [List.length_append, List.length_cons, List.length_nil]; omega)) only [go_sem, reduceCtorEq, Nat.reduceEqDiff, Nat.reduceAdd, Nat.reduceSub, Nat.reduceMul, Nat.reduceLeDiff, Int.reduceLT, Int.reduceLE, Int.reduceEq, ↓reduceIte, Int.reduceNeg, Int.reduceAdd, Int.reduceSub, Int.reduceMul, true_imp_iff, forall_const, Nat.mul_one, Int.reduceToNat, Nat.reducePow, Int.reducePow, Bool.true_and, Bool.false_and, Bool.and_false, rd, firstErr]
    exact retC_by (Drop.refl _) (.refl _) ⟨rfl, rfl⟩
   ·have h2' : ¬ (s.length : Int) - p' < u := by omega
    rw [if_neg h2] at hq
    subst hq
    have e1 : (p' : Int) + u - u = p' := by omega
    have e2 : ((p' : Int) + u).toNat = p' + u := by omega
    simp (disch := first | assumption | omega | (simp only [List.length_append, List.length_cons, List.length_nil]; omega)) only [go_sem, reduceCtorEq, Nat.reduceEqDiff, Nat.reduceAdd, Nat.reduceSub, Nat.reduceMul, Nat.reduceLeDiff, Int.reduceLT, Int.reduceLE, Int.reduceEq, ↓reduceIte, Int.reduceNeg, Int.reduceAdd, Int.reduceSub, Int.reduceMul, true_imp_iff, forall_const, Nat.mul_one, Int.reduceToNat, Nat.reducePow, Int.reducePow, Bool.true_and, Bool.false_and, Bool.and_false, rd, hmx, h1', h2', e1, e2]
    refine retC_by (Drop.refl _) (.refl _) ⟨?_, rfl⟩
    rw [List.drop_take, Nat.add_sub_cancel_left]
    rfl
 ·rw [if_pos he] at hq
  subst hq
  simp (disch := first | assumption | omega | (simp only [List.length_append, List.length_cons, List.length_nil]; omega)) only [go_sem, reduceCtorEq, Nat.reduceEqDiff, Nat.reduceAdd, Nat.reduceSub, Nat.reduceMul, Nat.reduceLeDiff, Int.reduceLT, Int.reduceLE, Int.reduceEq, ↓reduceIte, Int.reduceNeg, Int.reduceAdd, Int.reduceSub, Int.reduceMul, true_imp_iff, forall_const, Nat.mul_one, Int.reduceToNat, Nat.reducePow, Int.reducePow, Bool.true_and, Bool.false_and, Bool.and_false, rd, he]
  exact retC_by (Drop.refl _) (.refl _) ⟨rfl, rfl⟩
end Go.A
namespace Go.A
open Go.Proofs Go.Vint
theorem u8_of_lt {n : Nat} (h : n < 256) : (u8Of (n : Int)).toNat = n := by
 unfold u8Of
 rw [Int.toNat_natCast]
 simp; omega
theorem scan_uint : ∀ (m : Nat) (w k U : Nat) (r : List UInt8), (uintB w).length = m → k ≤ 9 → U + w * 128 ^ k < 18446744073709551616 → (0 < k → 0 < w) → scan k U (uintB w ++ r) = (0, U + w * 128 ^ k, k + (uintB w).length)
 | m, w, k, U, r, hm, hk, hb, hpos => by
   by_cases hw : w < 128
   ·rw [uintB_small hw]
    simp only [List.singleton_append, scan, List.length_singleton, u8_of_lt (show w < 256 by omega)]
    have h1 : ¬ (k = 9 ∧ 1 < w ∨ 0 < k ∧ w = 0) := by
     rintro (⟨rfl, h⟩ | ⟨h, h2⟩)
     ·have e : (128 : Nat) ^ 9 = 9223372036854775808 := by decide
      rw [e] at hb
      omega
     ·have := hpos h; omega
    rw [if_neg h1, if_pos hw, Nat.mod_eq_of_lt hw]
   ·rw [uintB_big hw] at hm ⊢
    have hc : (u8Of ((128 + w % 128 : Nat) : Int)).toNat = 128 + w % 128 := u8_of_lt (by omega)
    simp only [List.cons_append, scan, hc, List.length_cons]
    have hk9 : k ≠ 9 := by
     rintro rfl
     have e : (128 : Nat) ^ 9 = 9223372036854775808 := by decide
     rw [e] at hb
     omega
    rw [if_neg (by omega), if_neg (by omega)]
    have e1 : (128 + w % 128) % 128 = w % 128 := by omega
    have e2 : U + w % 128 * 128 ^ k + w / 128 * 128 ^ (k + 1) = U + w * 128 ^ k := by
     rw [Nat.pow_succ, Nat.add_assoc]
     congr 1
     rw [← Nat.mul_assoc, Nat.mul_right_comm (w / 128), ← Nat.add_mul]
     congr 1
     omega
    rw [e1]
    simp only [List.length_cons] at hm
    rw [scan_uint (m - 1) (w / 128) (k + 1) _ r (by omega) (by omega) (by rw [e2]; exact hb) (by omega), e2]
    simp; omega
theorem drop_app {s l r : List UInt8} {p : Nat} (h : s.drop p = l ++ r) : s.drop (p + l.length) = r := by
 rw [← List.drop_drop, h]; simp
theorem readU_uint {s r : List UInt8} {p u : Nat} (h : s.drop p = uintB u ++ r) (hu : u < 18446744073709551616) : readU s p 0 = (u, p + (uintB u).length, 0) := by
 have := scan_uint _ u 0 0 r rfl (by omega) (by omega) (by omega)
 rw [readU_of (h ▸ this)]
 simp
end Go.A
namespace Go.A
open Go.Proofs
/-! 4: tabular/tabulartop.TabularPages -/
def c4_31 : ACode := .seq (.seq (.ops [ oq 49 (.mv (.t 12)), oq 50 (.mv (.t 0)), oq 51 (.mv (.t 8)), oq 52 (.ia 1 (.t 50) (.t 51)), oq 53 (.ld none (.t 52)), oq 54 (.len (.t 53)), oq 55 (.bin .lss (.t 49) (.t 54)), oq 56 (.mv (.t 55)), ⟨some 57, some (56, true), .q (.mv (.t 12)), []⟩, ⟨some 58, some (56, true), .q (.bin .lss (.t 57) (.v (.int .i64 20))), []⟩, oq 59 (.pick (.t 56) (.t 58) (.v (.bool false)))]) (.cond (.t 59) .skip (.exit 2))) (.seq (.block 3 (.seq (.ops [ oq 62 (.mv (.t 0)), oq 63 (.mv (.t 8)), oq 64 (.ia 1 (.t 62) (.t 63)), oq 65 (.ld none (.t 64)), oq 66 (.mv (.t 12)), oq 67 (.ia 1 (.t 65) (.t 66)), oq 68 (.ld none (.t 67)), oe 69 (.call 15 [(.t 68)])]) (.cond (.t 69) (.ops [ oq 70 (.mv (.t 0)), oq 71 (.mv (.t 8)), oq 72 (.ia 1 (.t 70) (.t 71)), oq 73 (.ld none (.t 72)), oq 74 (.mv (.t 12)), oq 75 (.ia 1 (.t 73) (.t 74)), oq 76 (.ld none (.t 75)), oe 77 (.call 17 [(.t 76)]), oe 78 (.call 16 [(.t 11), (.t 77)])]) .skip))) (.ops [ oq 60 (.mv (.t 12)), oq 61 (.bin .add (.t 60) (.v (.int .i64 1))), oq 12 (.mv (.t 61))]))
def c4_45 : ACode := .seq (.ops [ oe 79 (.call 18 [(.t 11)]), oe 80 (.call 9 [(.t 79)]), oq 13 (.mv (.t 80))]) (.seq (.seq (.ops [ oe 81 (.call 18 [(.t 11)]), oq 82 (.lenS (.t 81)), oq 83 (.bin .gtr (.t 82) (.v (.int .i64 504))), oq 84 (.mv (.t 83)), ⟨some 85, some (84, false), .q (.mv (.t 5)), []⟩, ⟨some 86, some (84, false), .q (.mv (.t 9)), []⟩, ⟨some 87, some (84, false), .q (.mv (.t 13)), []⟩, ⟨some 88, some (84, false), .e (.call 8 [(.t 85), (.t 86), (.t 87)]), []⟩, ⟨some 89, some (84, false), .q (.bin .neq (.t 88) (.v (.int .i64 0))), []⟩, oq 90 (.pick (.t 84) (.v (.bool true)) (.t 89))]) (.cond (.t 90) (.seq (.ops [ oe 91 (.call 18 [(.t 11)]), oq 92 (.lenS (.t 91)), oq 93 (.bin .gtr (.t 92) (.v (.int .i64 504))), oq 4 (.mv (.t 93))]) .ret) .skip)) (.seq (.ops [ oq 94 (.mv (.t 6)), oq 95 (.mv (.t 9)), oq 96 (.bsl 1 [(.t 95)]), oe 97 (.app 3 1 8 [(.int .i64 0)] (.t 94) (.t 96)), oq 6 (.mv (.t 97))]) (.ops [ oq 98 (.mv (.t 7)), oe 99 (.call 18 [(.t 11)]), oq 100 (.bsl 1 [(.t 99)]), oe 101 (.app 9 1 16 [(.str [])] (.t 98) (.t 100)), oq 7 (.mv (.t 101))])))
def c4_51 : ACode := .ops [ oq 40 (.mv (.t 8)), oq 41 (.bin .add (.t 40) (.v (.int .i64 1))), oq 8 (.mv (.t 41))]
def c4_53 : ACode := .seq (.seq (.ops [ oq 32 (.mv (.t 8)), oq 33 (.mv (.t 0)), oq 34 (.len (.t 33)), oq 35 (.bin .lss (.t 32) (.t 34)), oq 36 (.mv (.t 35)), ⟨some 37, some (36, true), .q (.mv (.t 8)), []⟩, ⟨some 38, some (36, true), .q (.bin .lss (.t 37) (.v (.int .i64 8))), []⟩, oq 39 (.pick (.t 36) (.t 38) (.v (.bool false)))]) (.cond (.t 39) .skip (.exit 0))) (.seq (.block 1 (.seq (.ops [ oq 43 (.mv (.t 5)), oe 44 (.call 7 [(.t 43)]), oq 42 (.mv (.t 44)), oq 45 (.ext 0 (.t 42)), oq 46 (.ext 1 (.t 42)), oq 9 (.mv (.t 45)), oq 10 (.mv (.t 46))]) (.seq (.seq (.ops [ oq 47 (.mv (.t 10)), oq 48 (.bin .neq (.t 47) (.v (.int .i64 0)))]) (.cond (.t 48) (.seq (.ops [ oq 4 (.mv (.v (.bool false)))]) .ret) .skip)) (.seq (.ops [ oe 11 (.alloc [(.sl .full [])])]) (.seq (.seq (.ops [ oq 12 (.mv (.v (.int .i64 0)))]) (.block 2 (.loop c4_31))) c4_45))))) c4_51)
def c4_70 : ACode := .seq (.seq (.ops [ oq 102 (.mv (.t 14)), oq 103 (.mv (.t 1)), oq 104 (.len (.t 103)), oq 105 (.bin .lss (.t 102) (.t 104)), oq 106 (.mv (.t 105)), ⟨some 107, some (106, true), .q (.mv (.t 14)), []⟩, ⟨some 108, some (106, true), .q (.bin .lss (.t 107) (.v (.int .i64 5))), []⟩, oq 109 (.pick (.t 106) (.t 108) (.v (.bool false)))]) (.cond (.t 109) .skip (.exit 4))) (.seq (.block 5 (.seq (.ops [ oq 113 (.mv (.t 5)), oe 114 (.call 7 [(.t 113)]), oq 112 (.mv (.t 114)), oq 115 (.ext 0 (.t 112)), oq 116 (.ext 1 (.t 112)), oq 15 (.mv (.t 115)), oq 16 (.mv (.t 116))]) (.seq (.ops [ oq 117 (.mv (.t 16)), oq 118 (.bin .eql (.t 117) (.v (.int .i64 0))), oq 119 (.mv (.t 118)), ⟨some 120, some (119, true), .q (.mv (.t 1)), []⟩, ⟨some 121, some (119, true), .q (.mv (.t 14)), []⟩, ⟨some 122, some (119, true), .q (.ia 1 (.t 120) (.t 121)), []⟩, ⟨some 123, some (119, true), .q (.ld none (.t 122)), []⟩, ⟨some 124, some (119, true), .q (.bin .rem (.t 123) (.v (.int .i64 2))), []⟩, ⟨some 125, some (119, true), .q (.bin .eql (.t 124) (.v (.int .i64 0))), []⟩, oq 126 (.pick (.t 119) (.t 125) (.v (.bool false)))]) (.cond (.t 126) (.ops [ oq 127 (.mv (.t 5)), oq 128 (.mv (.t 15)), oe 129 (.call 19 [(.t 127), (.t 128)])]) .skip)))) (.ops [ oq 110 (.mv (.t 14)), oq 111 (.bin .add (.t 110) (.v (.int .i64 1))), oq 14 (.mv (.t 111))]))
def c4_114 : ACode := .seq (.seq (.ops [ oq 175 (.mv (.t 24)), oq 176 (.mv (.t 0)), oq 177 (.mv (.t 19)), oq 178 (.ia 1 (.t 176) (.t 177)), oq 179 (.ld none (.t 178)), oq 180 (.len (.t 179)), oq 181 (.bin .lss (.t 175) (.t 180)), oq 182 (.mv (.t 181)), ⟨some 183, some (182, true), .q (.mv (.t 24)), []⟩, ⟨some 184, some (182, true), .q (.bin .lss (.t 183) (.v (.int .i64 20))), []⟩, oq 185 (.pick (.t 182) (.t 184) (.v (.bool false)))]) (.cond (.t 185) .skip (.exit 8))) (.seq (.block 9 (.seq (.seq (.ops [ oq 188 (.mv (.t 0)), oq 189 (.mv (.t 19)), oq 190 (.ia 1 (.t 188) (.t 189)), oq 191 (.ld none (.t 190)), oq 192 (.mv (.t 24)), oq 193 (.ia 1 (.t 191) (.t 192)), oq 194 (.ld none (.t 193)), oe 195 (.call 15 [(.t 194)]), oq 196 (.un .not (.t 195))]) (.cond (.t 196) (.exit 9) .skip)) (.seq (.ops [ oq 198 (.mv (.t 23)), oe 199 (.call 22 [(.t 198), (.v (.int .i64 40))]), oe 200 (.call 21 [(.t 199)]), oq 197 (.mv (.t 200)), oq 201 (.ext 0 (.t 197)), oq 202 (.ext 1 (.t 197)), oq 25 (.mv (.t 201)), oq 26 (.mv (.t 202))]) (.seq (.ops [ oq 203 (.mv (.t 26)), oq 204 (.un .not (.t 203)), oq 205 (.mv (.t 204)), ⟨some 206, some (205, false), .q (.mv (.t 25)), []⟩, ⟨some 207, some (205, false), .q (.mv (.t 0)), []⟩, ⟨some 208, some (205, false), .q (.mv (.t 19)), []⟩, ⟨some 209, some (205, false), .q (.ia 1 (.t 207) (.t 208)), []⟩, ⟨some 210, some (205, false), .q (.ld none (.t 209)), []⟩, ⟨some 211, some (205, false), .q (.mv (.t 24)), []⟩, ⟨some 212, some (205, false), .q (.ia 1 (.t 210) (.t 211)), []⟩, ⟨some 213, some (205, false), .q (.ld none (.t 212)), []⟩, ⟨some 214, some (205, false), .q (.bin .neq (.t 206) (.t 213)), []⟩, oq 215 (.pick (.t 205) (.v (.bool true)) (.t 214))]) (.cond (.t 215) (.seq (.ops [ oq 4 (.mv (.v (.bool false)))]) .ret) .skip))))) (.ops [ oq 186 (.mv (.t 24)), oq 187 (.bin .add (.t 186) (.v (.int .i64 1))), oq 24 (.mv (.t 187))]))
def c4_132 : ACode := .seq (.ops [ oq 144 (.bin .lss (.t 143) (.t 142))]) (.seq (.cond (.t 144) .skip (.exit 6)) (.seq (.block 7 (.seq (.ops [ oq 145 (.mv (.t 143)), oq 146 (.ia 1 (.t 141) (.t 143)), oq 147 (.ld none (.t 146)), oq 19 (.mv (.t 145)), oq 20 (.mv (.t 147))]) (.seq (.ops [ oq 149 (.mv (.t 17)), oq 150 (.mv (.t 20)), oe 151 (.call 13 [(.t 149), (.t 150)]), oq 148 (.mv (.t 151)), oq 152 (.ext 0 (.t 148)), oq 153 (.ext 1 (.t 148)), oq 21 (.mv (.t 152)), oq 22 (.mv (.t 153))]) (.seq (.seq (.ops [ oq 154 (.mv (.t 22)), oq 155 (.bin .neq (.t 154) (.v (.int .i64 0))), oq 156 (.mv (.t 155)), ⟨some 157, some (156, false), .q (.mv (.t 21)), []⟩, ⟨some 158, some (156, false), .q (.mv (.t 7)), []⟩, ⟨some 159, some (156, false), .q (.mv (.t 19)), []⟩, ⟨some 160, some (156, false), .q (.ia 1 (.t 158) (.t 159)), []⟩, ⟨some 161, some (156, false), .q (.ld none (.t 160)), []⟩, ⟨some 162, some (156, false), .q (.lenS (.t 161)), []⟩, ⟨some 163, some (156, false), .q (.slto (true, 0) (.t 157) (.t 162)), []⟩, ⟨some 164, some (156, false), .q (.mv (.t 7)), []⟩, ⟨some 165, some (156, false), .q (.mv (.t 19)), []⟩, ⟨some 166, some (156, false), .q (.ia 1 (.t 164) (.t 165)), []⟩, ⟨some 167, some (156, false), .q (.ld none (.t 166)), []⟩, ⟨some 168, some (156, false), .q (.bin .neq (.t 163) (.t 167)), []⟩, oq 169 (.pick (.t 156) (.v (.bool true)) (.t 168))]) (.cond (.t 169) (.seq (.ops [ oq 4 (.mv (.v (.bool false)))]) .ret) .skip)) (.seq (.ops [ oq 170 (.mv (.t 7)), oq 171 (.mv (.t 19)), oq 172 (.ia 1 (.t 170) (.t 171)), oq 173 (.ld none (.t 172)), oe 174 (.call 20 [(.t 173)]), oq 23 (.mv (.t 174))]) (.seq (.seq (.ops [ oq 24 (.mv (.v (.int .i64 0)))]) (.block 8 (.loop c4_114))) (.seq (.ops [ oq 216 (.mv (.t 23)), oe 217 (.call 23 [(.t 216)]), oq 218 (.bin .neq (.t 217) (.v (.int .i64 0)))]) (.cond (.t 218) (.seq (.ops [ oq 4 (.mv (.v (.bool false)))]) .ret) .skip)))))))) (.ops [ oq 219 (.bin .add (.t 143) (.v (.int .i64 1))), oq 143 (.mv (.t 219))])))
def c4_138 : ACode := .seq (.seq (.ops [ oq 141 (.mv (.t 6)), oq 142 (.len (.t 141)), oq 143 (.mv (.v (.int .i64 0)))]) (.block 6 (.loop c4_132))) (.seq (.ops [ oq 4 (.mv (.v (.bool true)))]) .ret)
def c4_141 : ACode := .seq (.seq (.ops [ oq 130 (.mv (.t 5)), oe 131 (.call 10 [(.t 130)]), oq 132 (.bin .neq (.t 131) (.v (.int .i64 0)))]) (.cond (.t 132) (.seq (.ops [ oq 4 (.mv (.v (.bool false)))]) .ret) .skip)) (.seq (.ops [ oq 134 (.mv (.t 5)), oe 135 (.call 11 [(.t 134)]), oe 136 (.call 12 [(.t 135), (.v (.int .i64 20))]), oq 133 (.mv (.t 136)), oq 137 (.ext 0 (.t 133)), oq 138 (.ext 1 (.t 133)), oq 17 (.mv (.t 137)), oq 18 (.mv (.t 138))]) (.seq (.seq (.ops [ oq 139 (.mv (.t 18)), oq 140 (.bin .neq (.t 139) (.v (.int .i64 0)))]) (.cond (.t 140) (.seq (.ops [ oq 4 (.mv (.v (.bool false)))]) .ret) .skip)) c4_138))
def c4_142 : ACode := .seq (.seq (.ops [ oq 14 (.mv (.v (.int .i64 0)))]) (.block 4 (.loop c4_70))) c4_141
def c4_148 : ACode := .seq (.ops [ oq 4 (.mv (.v (.bool false)))]) (.seq (.seq (.ops [ oe 27 (.call 5 []), oq 28 (.un .not (.t 27))]) (.cond (.t 28) (.seq (.ops [ oq 4 (.mv (.v (.bool false)))]) .ret) .skip)) (.seq (.ops [ oe 29 (.call 6 [(.v (.int .i64 20))]), oq 5 (.mv (.t 29))]) (.seq (.ops [ oq 30 (.bsl 1 []), oq 6 (.mv (.t 30))]) (.seq (.ops [ oq 31 (.bsl 1 []), oq 7 (.mv (.t 31))]) (.seq (.seq (.ops [ oq 8 (.mv (.v (.int .i64 0)))]) (.block 0 (.loop c4_53))) c4_142)))))
@[go_sem] def c4_31_wp := wp_of c4_31.eq_1
@[go_sem] def c4_45_wp := wp_of c4_45.eq_1
@[go_sem] def c4_51_wp := wp_of c4_51.eq_1
@[go_sem] def c4_53_wp := wp_of c4_53.eq_1
@[go_sem] def c4_70_wp := wp_of c4_70.eq_1
@[go_sem] def c4_114_wp := wp_of c4_114.eq_1
@[go_sem] def c4_132_wp := wp_of c4_132.eq_1
@[go_sem] def c4_138_wp := wp_of c4_138.eq_1
@[go_sem] def c4_141_wp := wp_of c4_141.eq_1
@[go_sem] def c4_142_wp := wp_of c4_142.eq_1
@[go_sem] def c4_148_wp := wp_of c4_148.eq_1
def c4 : AFn := ⟨220, [.t 4], c4_148⟩
theorem c4_ok : compF Tryd.prog Tryd.f4 = some c4 := by kernel_rfl
theorem a4 {args : List AV} {σ : ASt} {R : AV → ASt → Prop} (hl : args.length ≤ 220) (h : c4_148.wp Tryd.prog (RetQ [.t 4] R) (init args) σ) : ACalls Tryd.prog 4 args σ R := acalls_of Tryd.func4 c4_ok hl h
end Go.A
namespace Go.A
open Go.Proofs Go.Lib Go.Vint
theorem textD_short {a : Int} (ha : a.natAbs ≤ 999999999999999999) : (textD a).length ≤ 21 := by
 have h1 : (Lib.decDigits (a.natAbs / 10000)).length ≤ 15 := dd_len 14 _ (by omega)
 have h2 : (placesP (a.natAbs % 10000)).length ≤ 5 := by
  unfold placesP
  split
  ·simp
  ·rw [dd_four (by omega)]
   have := congrArg List.length (trim_back 48 (fourP (a.natAbs % 10000)))
   rw [List.length_append] at this
   have e4 : (fourP (a.natAbs % 10000)).length = 4 := rfl
   simp
   omega
 unfold textD
 simp only [List.length_append]
 split <;> simp <;> omega
theorem ktx_written {s t r : List UInt8} {p most : Nat} (h : s.drop p = textB t ++ r) (ht : t.length ≤ most) (hm : most ≤ 1000000) : rtxP s p 0 most = (t, p + (textB t).length, 0) := by
 have h1 : s.drop p = uintB t.length ++ (t ++ r) := by rw [h]; simp [textB]
 have h2 := readU_uint h1 (by omega)
 have h3 := drop_app h1
 have hlen : p + (uintB t.length).length + t.length ≤ s.length := by
  have := congrArg List.length h3
  rw [List.length_drop, List.length_append] at this
  by_cases h0 : t.length = 0
  ·have h4 := congrArg List.length h1
   rw [List.length_drop, List.length_append] at h4
   have := uintB_pos t.length
   omega
  ·omega
 unfold rtxP
 rw [h2]
 dsimp only
 rw [if_neg (by simp), if_neg (by omega), if_neg (by omega), h3]
 simp [textB]
 omega
def wrB (l : List Int) : List UInt8 := l.flatMap fun n => if n.natAbs ≤ 999999999999999999 then textB (textD n) else []
def tB (l : List Int) : List UInt8 := wrB (l.take 20)
theorem wrB_step {l : List Int} {k : Nat} {n : Int} (h : l[k]? = some n) : wrB (l.take (k + 1)) = wrB (l.take k) ++ if n.natAbs ≤ 999999999999999999 then textB (textD n) else [] := by
 obtain ⟨hk, rfl⟩ := List.getElem?_eq_some_iff.1 h
 unfold wrB
 rw [List.take_succ_eq_append_getElem hk, List.flatMap_append]
 simp
theorem wrB_drop {l : List Int} {k : Nat} {n : Int} (h : l[k]? = some n) : wrB (l.drop k) = (if n.natAbs ≤ 999999999999999999 then textB (textD n) else []) ++ wrB (l.drop (k + 1)) := by
 obtain ⟨hk, rfl⟩ := List.getElem?_eq_some_iff.1 h
 unfold wrB
 rw [List.drop_eq_getElem_cons hk, List.flatMap_cons]
theorem textB_short {a : Int} (ha : a.natAbs ≤ 999999999999999999) : (textB (textD a)).length ≤ 22 := by
 have h := textD_short ha
 unfold textB
 rw [uintB_small (by omega), List.length_append, List.length_singleton]
 omega
theorem wrB_le (l : List Int) : (wrB l).length ≤ 22 * l.length := by
 induction l with
 | nil => exact Nat.le_refl _
 | cons n l ih =>
   unfold wrB at ih ⊢
   rw [List.flatMap_cons, List.length_append, List.length_cons]
   have : (if n.natAbs ≤ 999999999999999999 then textB (textD n) else []).length ≤ 22 := by
    split
    ·rename_i h; exact textB_short h
    ·exact Nat.zero_le _
   omega
theorem tB_le (l : List Int) : (tB l).length ≤ 440 := by
 have := wrB_le (l.take 20)
 unfold tB
 rw [List.length_take] at this
 omega
theorem wrB_split (l : List Int) (k : Nat) : wrB l = wrB (l.take k) ++ wrB (l.drop k) := by
 unfold wrB
 rw [← List.flatMap_append, List.take_append_drop]
theorem take_take_le (l : List Int) {k : Nat} (h : k ≤ 20) : (l.take 20).take k = l.take k := by rw [List.take_take, Nat.min_eq_left h]
theorem tB_drop (l : List Int) {k : Nat} (h : k ≤ 20) : (tB l).drop (wrB (l.take k)).length = wrB ((l.take 20).drop k) := by
 unfold tB
 rw [wrB_split (l.take 20) k, take_take_le l h, List.drop_left]
theorem full_take {t : List UInt8} (h : t.length ≤ 504) : (fullP t).take t.length = t := by
 unfold fullP padB
 rw [List.take_of_length_le h, List.take_left]
def decsV (l : List Int) : AV := .sl .shr (l.map (AV.int .i64))
def pgsV (N : Nat) : List AV := (List.range N).map fun (i : Nat) => AV.int .i64 ((i : Int) + 1)
def txsV (LL : List (List Int)) : List AV := LL.map fun l => AV.str (tB l)
theorem pgsV_get {N i : Nat} (h : i < N) : (pgsV N)[i]? = some (.int .i64 ((i : Int) + 1)) := by
 unfold pgsV
 rw [List.getElem?_map, List.getElem?_range h]
 rfl
theorem pgsV_succ (N : Nat) : pgsV (N + 1) = pgsV N ++ [.int .i64 ((N : Int) + 1)] := by
 unfold pgsV
 rw [List.range_succ, List.map_append]
 rfl
theorem pgsV_len (N : Nat) : (pgsV N).length = N := by unfold pgsV; rw [List.length_map, List.length_range]
def withRd (D : Dsk) (r : Int) : Dsk := { D with rd := r }
set_option maxHeartbeats 2000000 in
theorem pages4 {σ σ3 s : ASt} {x B cB I cI : Nat} {rB rI : List AV} {fv : AV} {D : Dsk} {LL : List (List Int)} {N n : Nat} {kp kt : SK} (hN : N ≤ LL.length) (hN8 : N ≤ 8)
  (hbl : D.b.length = n * 512) (hn6 : n ≤ 60000) (hNn : N < n) (hil : D.isF.length = n) (hrl : D.rl = -1) (hif : ∀ i, i < N → D.isF[i + 1]? = some false)
  (hlk : ∀ i l, i < N → LL[i]? = some l → lookP D.b (i + 1) = some (fullP (tB l)))
  (hR : RM σ3 x (withRd D 0) s B cB rB fv I cI rI) (hT : CkT σ3) (hD : Drop σ3 σ) (a1 : AFr)
  (hf : a1 0 = .sl .shr (LL.map decsV) ∧ a1 6 = .sl kp (pgsV N) ∧ a1 7 = .sl kt (txsV (LL.take N)) ∧ a1 17 = .ptr x 0) :
  ACode.wp Tryd.prog c4_138 (RetQ [.t 4] fun v σ' => v = .bool true ∧ σ' = σ) a1 s := by
 have hdn : 2 ≠ x := by
  rintro he
  have := hR.z1
  unfold CkT at hT
  rw [← he, hT] at this
  cases this
 have hpl := pgsV_len N
 have hpg := fun i (h : i < N) => pgsV_get h
 have htx : ∀ i l, i < N → LL[i]? = some l → (txsV (LL.take N))[i]? = some (.str (tB l)) := fun i l h h2 => by
  unfold txsV
  rw [List.getElem?_map, List.getElem?_take, if_pos h, h2]
  rfl
 have hls : ∀ i l, LL[i]? = some l → (LL.map decsV)[i]? = some (decsV l) := fun i l h => by rw [List.getElem?_map, h]; rfl
 generalize pgsV N = PG at *
 generalize txsV (LL.take N) = TX at *
 generalize LL.map decsV = LS at *
 obtain ⟨J, hJ⟩ : ∃ J : Nat → AFr → ASt → Prop, J = fun i a2 s2 => i ≤ N ∧ (a2 0 = .sl .shr LS ∧ a2 7 = .sl kt TX ∧ a2 17 = .ptr x 0 ∧ a2 141 = .sl kp PG ∧ a2 142 = .int .i64 N ∧ a2 143 = .int .i64 i) ∧ RM σ3 x (withRd D i) s2 B cB rB fv I cI rI := ⟨_, rfl⟩
 have hpl' : (PG.length : Int) = (N : Int) := by omega
 simp (disch := first | assumption | omega | (simp only [List.length_append, List.length_cons, List.length_nil]; omega)) only [go_sem, reduceCtorEq, Nat.reduceEqDiff, Nat.reduceAdd, Nat.reduceSub, Nat.reduceMul, Nat.reduceLeDiff, Int.reduceLT, Int.reduceLE, Int.reduceEq, ↓reduceIte, Int.reduceNeg, Int.reduceAdd, Int.reduceSub, Int.reduceMul, true_imp_iff, forall_const, Nat.mul_one, Int.reduceToNat, Nat.reducePow, Int.reducePow, Bool.true_and, Bool.false_and, Bool.and_false, hf, hpl']
 refine wp_loop_on J (fun i => N - i) 0 ?_ ?_
 ·rw [hJ]
  refine ⟨Nat.zero_le _, ?_, hR⟩
  simp (disch := first | assumption | omega | (simp only [List.length_append, List.length_cons, List.length_nil]; omega)) only [go_sem, reduceCtorEq, Nat.reduceEqDiff, Nat.reduceAdd, Nat.reduceSub, Nat.reduceMul, Nat.reduceLeDiff, Int.reduceLT, Int.reduceLE, Int.reduceEq, ↓reduceIte, Int.reduceNeg, Int.reduceAdd, Int.reduceSub, Int.reduceMul, true_imp_iff, forall_const, Nat.mul_one, Int.reduceToNat, Nat.reducePow, Int.reducePow, Bool.true_and, Bool.false_and, Bool.and_false, hf]
 clear hR hf
 intro i a2 s2 hjj
 rw [hJ] at hjj
 obtain ⟨hi, hf, hR⟩ := hjj
 by_cases hlt : i < N
 ·have hlt' : (i : Int) < (N : Int) := by omega
  obtain ⟨l, hl⟩ : ∃ l, LL[i]? = some l := ⟨_, List.getElem?_eq_getElem (by omega)⟩
  have hlk := hlk i l hlt hl
  have hpg := hpg i hlt
  have htx := htx i l hlt hl
  have hls := hls i l hl
  have hpi : ((i + 1 : Nat) : Int) = (i : Int) + 1 := by omega
  have hrd : ACalls Tryd.prog 13 [.ptr x 0, .int .i64 ((i + 1 : Nat) : Int)] s2 fun v σ' => v = readAV (lookP D.b (i + 1)) ∧ σ' = s2.set x (some (.obj ((withRd D ((i : Int) + 1)).cs B cB fv I cI))) :=
   dkread_ok (D := withRd D i) (hR.at hT) hdn hR.lm (n := n) hbl hn6 hil hrl ⟨Int.natCast_nonneg _, (by show ((i : Nat) : Int) < 1000000000; omega)⟩ (p := i + 1) (by omega) (by omega) (hif i hlt)
  have hRn := hR.cells (D' := withRd D ((i : Int) + 1)) rfl rfl
  rw [hpi, hlk] at hrd
  generalize s2.set x (some (.obj ((withRd D ((i : Int) + 1)).cs B cB fv I cI))) = s4 at *
  have hfin : RM σ3 x (withRd D ((i + 1 : Nat) : Int)) s4 B cB rB fv I cI rI := by rw [hpi]; exact hRn
  have htl := tB_le l
  have hft := full_take (t := tB l) (by omega)
  have hfl := fullP_len (tB l)
  have htd := fun k (h : k ≤ 20) => tB_drop l h
  have htk0 : ∀ k, k = 20 ∨ (l.length ≤ k ∧ k ≤ 20) → (wrB (l.take k)).length = (tB l).length := fun k h => by
   unfold tB
   rcases h with rfl | h
   ·rfl
   ·rw [List.take_of_length_le h.1, List.take_of_length_le (by omega)]
  have hrr := rread_ok (tB l)
  obtain ⟨TT, hTT⟩ : ∃ TT, TT = tB l := ⟨_, rfl⟩
  rw [← hTT] at hrd hft htl hfl htx htd htk0 hrr
  have hfll : (TT.length : Int) ≤ ((fullP TT).length : Int) := by omega
  unfold readAV at hrd
  generalize fullP TT = FT at *
  simp (disch := first | assumption | omega | (simp only [List.length_append, List.length_cons, List.length_nil]; omega)) only [go_sem, reduceCtorEq, Nat.reduceEqDiff, Nat.reduceAdd, Nat.reduceSub, Nat.reduceMul, Nat.reduceLeDiff, Int.reduceLT, Int.reduceLE, Int.reduceEq, ↓reduceIte, Int.reduceNeg, Int.reduceAdd, Int.reduceSub, Int.reduceMul, true_imp_iff, forall_const, Nat.mul_one, Int.reduceToNat, Nat.reducePow, Int.reducePow, Bool.true_and, Bool.false_and, Bool.and_false, hf, hlt', hpg]
  refine hrd.mono ?_
  rintro v s5 ⟨rfl, rfl⟩
  simp (disch := first | assumption | omega | (simp only [List.length_append, List.length_cons, List.length_nil]; omega)) only [go_sem, reduceCtorEq, Nat.reduceEqDiff, Nat.reduceAdd, Nat.reduceSub, Nat.reduceMul, Nat.reduceLeDiff, Int.reduceLT, Int.reduceLE, Int.reduceEq, ↓reduceIte, Int.reduceNeg, Int.reduceAdd, Int.reduceSub, Int.reduceMul, true_imp_iff, forall_const, Nat.mul_one, Int.reduceToNat, Nat.reducePow, Int.reducePow, Bool.true_and, Bool.false_and, Bool.and_false, hf, htx, hft, Int.toNat_natCast, List.drop_zero, eq_self]
  refine (hrr _).mono ?_
  rintro v s6 ⟨b, rfl, hb, rfl⟩
  obtain ⟨J2, hJ2⟩ : ∃ J : Nat → AFr → ASt → Prop, J = fun k a3 s3 => (k ≤ 20 ∧ k ≤ l.length) ∧ (a3 0 = .sl .shr LS ∧ a3 7 = .sl kt TX ∧ a3 17 = .ptr x 0 ∧ a3 19 = .int .i64 i ∧ a3 23 = .ptr b 0 ∧ a3 24 = .int .i64 k ∧ a3 141 = .sl kp PG ∧ a3 142 = .int .i64 N ∧ a3 143 = .int .i64 i) ∧ s3 = s5.set b (rd TT (wrB (l.take k)).length 0) := ⟨_, rfl⟩
  simp (disch := first | assumption | omega | (simp only [List.length_append, List.length_cons, List.length_nil]; omega)) only [go_sem, reduceCtorEq, Nat.reduceEqDiff, Nat.reduceAdd, Nat.reduceSub, Nat.reduceMul, Nat.reduceLeDiff, Int.reduceLT, Int.reduceLE, Int.reduceEq, ↓reduceIte, Int.reduceNeg, Int.reduceAdd, Int.reduceSub, Int.reduceMul, true_imp_iff, forall_const, Nat.mul_one, Int.reduceToNat, Nat.reducePow, Int.reducePow, Bool.true_and, Bool.false_and, Bool.and_false, hf]
  refine wp_loop_on J2 (fun k => 20 - k) 0 ?_ ?_
  ·rw [hJ2]
   refine ⟨⟨Nat.zero_le _, Nat.zero_le _⟩, ?_, rfl⟩
   simp (disch := first | assumption | omega | (simp only [List.length_append, List.length_cons, List.length_nil]; omega)) only [go_sem, reduceCtorEq, Nat.reduceEqDiff, Nat.reduceAdd, Nat.reduceSub, Nat.reduceMul, Nat.reduceLeDiff, Int.reduceLT, Int.reduceLE, Int.reduceEq, ↓reduceIte, Int.reduceNeg, Int.reduceAdd, Int.reduceSub, Int.reduceMul, true_imp_iff, forall_const, Nat.mul_one, Int.reduceToNat, Nat.reducePow, Int.reducePow, Bool.true_and, Bool.false_and, Bool.and_false, hf]
  intro k a3 s3 hjj
  rw [hJ2] at hjj
  obtain ⟨⟨hk20, hkl⟩, hf3, rfl⟩ := hjj
  unfold decsV at hls
  have hll : ((l.map (AV.int .i64)).length : Int) = (l.length : Int) := by rw [List.length_map]
  by_cases hkt : k < l.length ∧ k < 20
  ·have hk1 : (k : Int) < (l.length : Int) := by omega
   have hk2 : (k : Int) < 20 := by omega
   obtain ⟨m, hm⟩ : ∃ m, l[k]? = some m := ⟨_, List.getElem?_eq_getElem hkt.1⟩
   have hmx : (l.map (AV.int .i64))[k]? = some (.int .i64 m) := by rw [List.getElem?_map, hm]; rfl
   have hgd := dgood_ok m
   have hst := wrB_step hm
   have hdp : TT.drop (wrB (l.take k)).length = (if m.natAbs ≤ 999999999999999999 then textB (textD m) else []) ++ wrB ((l.take 20).drop (k + 1)) := by
    rw [htd k hk20]
    exact wrB_drop (by rw [List.getElem?_take, if_pos hkt.2]; exact hm)
   generalize l.map (AV.int .i64) = LM at *
   by_cases hg : m.natAbs ≤ 999999999999999999
   ·rw [if_pos hg] at hst hdp
    rw [decide_eq_true hg] at hgd
    have htx2 := ktx_written hdp (most := 40) (by have := textD_short hg; omega) (by decide)
    have hps : (wrB (l.take k)).length ≤ TT.length := by
     have := congrArg List.length hdp
     rw [List.length_drop, List.length_append] at this
     have h2 : 0 < (textB (textD m)).length := by unfold textB; rw [List.length_append]; have := uintB_pos (textD m).length; omega
     omega
    have hrt := rtext_ok TT (wrB (l.take k)).length 0 40 b (s5.set b (rd TT (wrB (l.take k)).length 0)) (ASt.set_same _ _ _) (by omega) hps (by decide)
    rw [htx2, ASt.set_set] at hrt
    dsimp only at hrt
    have hpz := dparse_ok (textD m) (by have := textD_short hg; omega)
    rw [parse_text_d hg] at hpz
    have hra : resAV (some m) = .tuple [.int .i64 m, .bool true] := rfl
    rw [hra] at hpz
    rw [← List.length_append, ← hst] at hrt
    simp (disch := first | assumption | omega | (simp only [List.length_append, List.length_cons, List.length_nil]; omega)) only [go_sem, reduceCtorEq, Nat.reduceEqDiff, Nat.reduceAdd, Nat.reduceSub, Nat.reduceMul, Nat.reduceLeDiff, Int.reduceLT, Int.reduceLE, Int.reduceEq, ↓reduceIte, Int.reduceNeg, Int.reduceAdd, Int.reduceSub, Int.reduceMul, true_imp_iff, forall_const, Nat.mul_one, Int.reduceToNat, Nat.reducePow, Int.reducePow, Bool.true_and, Bool.false_and, Bool.and_false, hf3, hls, hll, hk1, hk2, hmx, Int.toNat_natCast]
    refine hgd.use ?_
    simp (disch := first | assumption | omega | (simp only [List.length_append, List.length_cons, List.length_nil]; omega)) only [go_sem, reduceCtorEq, Nat.reduceEqDiff, Nat.reduceAdd, Nat.reduceSub, Nat.reduceMul, Nat.reduceLeDiff, Int.reduceLT, Int.reduceLE, Int.reduceEq, ↓reduceIte, Int.reduceNeg, Int.reduceAdd, Int.reduceSub, Int.reduceMul, true_imp_iff, forall_const, Nat.mul_one, Int.reduceToNat, Nat.reducePow, Int.reducePow, Bool.true_and, Bool.false_and, Bool.and_false, hf3]
    refine hrt.mono ?_
    rintro v s7 ⟨rfl, rfl⟩
    simp (disch := first | assumption | omega | (simp only [List.length_append, List.length_cons, List.length_nil]; omega)) only [go_sem, reduceCtorEq, Nat.reduceEqDiff, Nat.reduceAdd, Nat.reduceSub, Nat.reduceMul, Nat.reduceLeDiff, Int.reduceLT, Int.reduceLE, Int.reduceEq, ↓reduceIte, Int.reduceNeg, Int.reduceAdd, Int.reduceSub, Int.reduceMul, true_imp_iff, forall_const, Nat.mul_one, Int.reduceToNat, Nat.reducePow, Int.reducePow, Bool.true_and, Bool.false_and, Bool.and_false, hf3]
    refine hpz.use ?_
    simp (disch := first | assumption | omega | (simp only [List.length_append, List.length_cons, List.length_nil]; omega)) only [go_sem, reduceCtorEq, Nat.reduceEqDiff, Nat.reduceAdd, Nat.reduceSub, Nat.reduceMul, Nat.reduceLeDiff, Int.reduceLT, Int.reduceLE, Int.reduceEq, ↓reduceIte, Int.reduceNeg, Int.reduceAdd, Int.reduceSub, Int.reduceMul, true_imp_iff, forall_const, Nat.mul_one, Int.reduceToNat, Nat.reducePow, Int.reducePow, Bool.true_and, Bool.false_and, Bool.and_false, hf3, hls, hmx, Int.toNat_natCast, eq_self]
    refine ⟨k + 1, by omega, ?_⟩
    rw [hJ2]
    refine ⟨⟨by omega, by omega⟩, ?_, rfl⟩
    simp (disch := first | assumption | omega | (simp only [List.length_append, List.length_cons, List.length_nil]; omega)) only [go_sem, reduceCtorEq, Nat.reduceEqDiff, Nat.reduceAdd, Nat.reduceSub, Nat.reduceMul, Nat.reduceLeDiff, Int.reduceLT, Int.reduceLE, Int.reduceEq, ↓reduceIte, Int.reduceNeg, Int.reduceAdd, Int.reduceSub, Int.reduceMul, true_imp_iff, forall_const, Nat.mul_one, Int.reduceToNat, Nat.reducePow, Int.reducePow, Bool.true_and, Bool.false_and, Bool.and_false, hf3]
   ·rw [if_neg hg, List.append_nil] at hst
    rw [decide_eq_false hg] at hgd
    simp (disch := first | assumption | omega | (simp only [List.length_append, List.length_cons, List.length_nil]; omega)) only [go_sem, reduceCtorEq, Nat.reduceEqDiff, Nat.reduceAdd, Nat.reduceSub, Nat.reduceMul, Nat.reduceLeDiff, Int.reduceLT, Int.reduceLE, Int.reduceEq, ↓reduceIte, Int.reduceNeg, Int.reduceAdd, Int.reduceSub, Int.reduceMul, true_imp_iff, forall_const, Nat.mul_one, Int.reduceToNat, Nat.reducePow, Int.reducePow, Bool.true_and, Bool.false_and, Bool.and_false, hf3, hls, hll, hk1, hk2, hmx, Int.toNat_natCast]
    refine hgd.use ?_
    simp (disch := first | assumption | omega | (simp only [List.length_append, List.length_cons, List.length_nil]; omega)) only [go_sem, reduceCtorEq, Nat.reduceEqDiff, Nat.reduceAdd, Nat.reduceSub, Nat.reduceMul, Nat.reduceLeDiff, Int.reduceLT, Int.reduceLE, Int.reduceEq, ↓reduceIte, Int.reduceNeg, Int.reduceAdd, Int.reduceSub, Int.reduceMul, true_imp_iff, forall_const, Nat.mul_one, Int.reduceToNat, Nat.reducePow, Int.reducePow, Bool.true_and, Bool.false_and, Bool.and_false, hf3]
    refine ⟨k + 1, by omega, ?_⟩
    rw [hJ2]
    refine ⟨⟨by omega, by omega⟩, ?_, by rw [hst]⟩
    simp (disch := first | assumption | omega | (simp only [List.length_append, List.length_cons, List.length_nil]; omega)) only [go_sem, reduceCtorEq, Nat.reduceEqDiff, Nat.reduceAdd, Nat.reduceSub, Nat.reduceMul, Nat.reduceLeDiff, Int.reduceLT, Int.reduceLE, Int.reduceEq, ↓reduceIte, Int.reduceNeg, Int.reduceAdd, Int.reduceSub, Int.reduceMul, true_imp_iff, forall_const, Nat.mul_one, Int.reduceToNat, Nat.reducePow, Int.reducePow, Bool.true_and, Bool.false_and, Bool.and_false, hf3]
  ·have hend := htk0 k (by omega)
   have hdn := rdone_ok TT (wrB (l.take k)).length 0 b (s5.set b (rd TT (wrB (l.take k)).length 0)) (ASt.set_same _ _ _)
   rw [if_neg (by omega), ASt.set_set] at hdn
   have hfin2 := hfin.add (rd TT (wrB (l.take k)).length 0) hb
   by_cases hk1 : k < l.length
   ·have hk1' : (k : Int) < (l.length : Int) := by omega
    have hk2' : ¬ (k : Int) < 20 := by omega
    simp (disch := first | assumption | omega | (simp only [List.length_append, List.length_cons, List.length_nil]; omega)) only [go_sem, reduceCtorEq, Nat.reduceEqDiff, Nat.reduceAdd, Nat.reduceSub, Nat.reduceMul, Nat.reduceLeDiff, Int.reduceLT, Int.reduceLE, Int.reduceEq, ↓reduceIte, Int.reduceNeg, Int.reduceAdd, Int.reduceSub, Int.reduceMul, true_imp_iff, forall_const, Nat.mul_one, Int.reduceToNat, Nat.reducePow, Int.reducePow, Bool.true_and, Bool.false_and, Bool.and_false, hf3, hls, hll, hk1', hk2', Int.toNat_natCast]
    refine hdn.mono ?_
    rintro v s7 ⟨rfl, rfl⟩
    simp (disch := first | assumption | omega | (simp only [List.length_append, List.length_cons, List.length_nil]; omega)) only [go_sem, reduceCtorEq, Nat.reduceEqDiff, Nat.reduceAdd, Nat.reduceSub, Nat.reduceMul, Nat.reduceLeDiff, Int.reduceLT, Int.reduceLE, Int.reduceEq, ↓reduceIte, Int.reduceNeg, Int.reduceAdd, Int.reduceSub, Int.reduceMul, true_imp_iff, forall_const, Nat.mul_one, Int.reduceToNat, Nat.reducePow, Int.reducePow, Bool.true_and, Bool.false_and, Bool.and_false, hf3]
    refine ⟨i + 1, by omega, ?_⟩
    rw [hJ]
    refine ⟨by omega, ?_, hfin2⟩
    simp (disch := first | assumption | omega | (simp only [List.length_append, List.length_cons, List.length_nil]; omega)) only [go_sem, reduceCtorEq, Nat.reduceEqDiff, Nat.reduceAdd, Nat.reduceSub, Nat.reduceMul, Nat.reduceLeDiff, Int.reduceLT, Int.reduceLE, Int.reduceEq, ↓reduceIte, Int.reduceNeg, Int.reduceAdd, Int.reduceSub, Int.reduceMul, true_imp_iff, forall_const, Nat.mul_one, Int.reduceToNat, Nat.reducePow, Int.reducePow, Bool.true_and, Bool.false_and, Bool.and_false, hf3]
   ·have hk1' : ¬ (k : Int) < (l.length : Int) := by omega
    simp (disch := first | assumption | omega | (simp only [List.length_append, List.length_cons, List.length_nil]; omega)) only [go_sem, reduceCtorEq, Nat.reduceEqDiff, Nat.reduceAdd, Nat.reduceSub, Nat.reduceMul, Nat.reduceLeDiff, Int.reduceLT, Int.reduceLE, Int.reduceEq, ↓reduceIte, Int.reduceNeg, Int.reduceAdd, Int.reduceSub, Int.reduceMul, true_imp_iff, forall_const, Nat.mul_one, Int.reduceToNat, Nat.reducePow, Int.reducePow, Bool.true_and, Bool.false_and, Bool.and_false, hf3, hls, hll, hk1', Int.toNat_natCast]
    refine hdn.mono ?_
    rintro v s7 ⟨rfl, rfl⟩
    simp (disch := first | assumption | omega | (simp only [List.length_append, List.length_cons, List.length_nil]; omega)) only [go_sem, reduceCtorEq, Nat.reduceEqDiff, Nat.reduceAdd, Nat.reduceSub, Nat.reduceMul, Nat.reduceLeDiff, Int.reduceLT, Int.reduceLE, Int.reduceEq, ↓reduceIte, Int.reduceNeg, Int.reduceAdd, Int.reduceSub, Int.reduceMul, true_imp_iff, forall_const, Nat.mul_one, Int.reduceToNat, Nat.reducePow, Int.reducePow, Bool.true_and, Bool.false_and, Bool.and_false, hf3]
    refine ⟨i + 1, by omega, ?_⟩
    rw [hJ]
    refine ⟨by omega, ?_, hfin2⟩
    simp (disch := first | assumption | omega | (simp only [List.length_append, List.length_cons, List.length_nil]; omega)) only [go_sem, reduceCtorEq, Nat.reduceEqDiff, Nat.reduceAdd, Nat.reduceSub, Nat.reduceMul, Nat.reduceLeDiff, Int.reduceLT, Int.reduceLE, Int.reduceEq, ↓reduceIte, Int.reduceNeg, Int.reduceAdd, Int.reduceSub, Int.reduceMul, true_imp_iff, forall_const, Nat.mul_one, Int.reduceToNat, Nat.reducePow, Int.reducePow, Bool.true_and, Bool.false_and, Bool.and_false, hf3]
 ·have hlt' : ¬ (i : Int) < (N : Int) := by omega
  simp (disch := first | assumption | omega | (simp only [List.length_append, List.length_cons, List.length_nil]; omega)) only [go_sem, reduceCtorEq, Nat.reduceEqDiff, Nat.reduceAdd, Nat.reduceSub, Nat.reduceMul, Nat.reduceLeDiff, Int.reduceLT, Int.reduceLE, Int.reduceEq, ↓reduceIte, Int.reduceNeg, Int.reduceAdd, Int.reduceSub, Int.reduceMul, true_imp_iff, forall_const, Nat.mul_one, Int.reduceToNat, Nat.reducePow, Int.reducePow, Bool.true_and, Bool.false_and, Bool.and_false, hf, hlt']
  exact retC_by (hR.drop.trans hD) (.refl _) ⟨rfl, rfl⟩
end Go.A
namespace Go.A
open Go.Proofs
/-! 5: tabular/tabulartop.live -/
def c5_17 : ACode := .seq (.ops [ oq 0 (.mv (.v (.bool false)))]) (.seq (.ops [ oe 8 (.call 6 [(.v (.int .i64 3))]), oq 1 (.mv (.t 8))]) (.seq (.seq (.ops [ oq 9 (.mv (.t 1)), oq 10 (.eq .p false (.t 9) (.v .nilp))]) (.cond (.t 10) (.seq (.ops [ oq 0 (.mv (.v (.bool false)))]) .ret) .skip)) (.seq (.ops [ oq 12 (.mv (.t 1)), oe 13 (.call 7 [(.t 12)]), oq 11 (.mv (.t 13)), oq 14 (.ext 0 (.t 11)), oq 15 (.ext 1 (.t 11)), oq 2 (.mv (.t 14)), oq 3 (.mv (.t 15))]) (.seq (.ops [ oe 17 (.call 25 [(.v (.str [97, 98]))]), oe 18 (.call 24 [(.t 17)]), oq 16 (.mv (.t 18)), oq 19 (.ext 0 (.t 16)), oq 20 (.ext 1 (.t 16)), oq 4 (.mv (.t 19)), oq 5 (.mv (.t 20))]) (.seq (.ops [ oe 22 (.call 21 [(.v (.str [45, 50, 46, 53]))]), oq 21 (.mv (.t 22)), oq 23 (.ext 0 (.t 21)), oq 24 (.ext 1 (.t 21)), oq 6 (.mv (.t 23)), oq 7 (.mv (.t 24))]) (.seq (.ops [ oq 25 (.mv (.t 3)), oq 26 (.bin .eql (.t 25) (.v (.int .i64 0))), oq 27 (.mv (.t 26)), ⟨some 28, some (27, true), .q (.mv (.t 2)), []⟩, ⟨some 29, some (27, true), .q (.bin .eql (.t 28) (.v (.int .i64 1))), []⟩, oq 30 (.pick (.t 27) (.t 29) (.v (.bool false))), oq 31 (.mv (.t 30)), ⟨some 32, some (31, true), .q (.mv (.t 5)), []⟩, oq 33 (.pick (.t 31) (.t 32) (.v (.bool false))), oq 34 (.mv (.t 33)), ⟨some 35, some (34, true), .q (.mv (.t 4)), []⟩, ⟨some 36, some (34, true), .q (.bin .eql (.t 35) (.v (.str [97, 98]))), []⟩, oq 37 (.pick (.t 34) (.t 36) (.v (.bool false))), oq 38 (.mv (.t 37)), ⟨some 39, some (38, true), .q (.mv (.t 7)), []⟩, oq 40 (.pick (.t 38) (.t 39) (.v (.bool false))), oq 41 (.mv (.t 40)), ⟨some 42, some (41, true), .q (.mv (.t 6)), []⟩, ⟨some 43, some (41, true), .q (.bin .eql (.t 42) (.v (.int .i64 (-25000)))), []⟩, oq 44 (.pick (.t 41) (.t 43) (.v (.bool false))), oq 0 (.mv (.t 44))]) .ret))))))
@[go_sem] def c5_17_wp := wp_of c5_17.eq_1
def c5 : AFn := ⟨45, [.t 0], c5_17⟩
theorem c5_ok : compF Tryd.prog Tryd.f5 = some c5 := by kernel_rfl
theorem a5 {args : List AV} {σ : ASt} {R : AV → ASt → Prop} (hl : args.length ≤ 45) (h : c5_17.wp Tryd.prog (RetQ [.t 0] R) (init args) σ) : ACalls Tryd.prog 5 args σ R := acalls_of Tryd.func5 c5_ok hl h
end Go.A
namespace Go.A
open Go.Proofs Go.Lib
theorem live_ok {σ : ASt} (hT : CkT σ) : ACalls Tryd.prog 5 [] σ fun v σ' => v = .bool true ∧ σ' = σ := by
 have hN := dknew_ok hT 3
 have e3 : min (max (3 : Int) 2) 60000 = 3 := by decide
 rw [e3] at hN
 have hP := dparse_ok [45, 50, 46, 53] (by decide)
 have hPd : parseD [45, 50, 46, 53] = some (-25000) := by decide +kernel
 rw [hPd] at hP
 have hS := fun τ (h : CkT τ) => ckseal_ok h [97, 98] (by decide)
 have hO := fun τ (h : CkT τ) => ckopen_ok h ([97, 98] ++ le32 (ckN [97, 98])) (by rw [List.length_append, le32_len]; decide)
 rw [openP_seal] at hO
 have hra : resAV (some (-25000)) = .tuple [.int .i64 (-25000), .bool true] := rfl
 rw [hra] at hP
 refine a5 (by simp) ?_
 simp (disch := first | assumption | omega) only [go_sem]
 refine hN.mono ?_
 rintro v σ1 ⟨d, rfl, B, cB, rB, fv, F, I, cI, rI, hD⟩
 have hK := dktake_new (hD.at hT) hD hT (newP_ok (by decide)) rfl (by decide : (1 : Int) < 3) rfl (by decide : (1 : Int) < 1000000000)
 simp (disch := first | assumption | omega) only [go_sem, Nat.reduceEqDiff, ↓reduceIte]
 refine hK.mono ?_
 rintro v σ2 ⟨rfl, h2⟩
 have hi : (((newP 3).isF.length : Nat) : Int) = 1 := rfl
 have hC2 : CkT σ2 := h2.at hT
 simp (disch := first | assumption | omega) only [go_sem, Nat.reduceEqDiff, ↓reduceIte, hi]
 refine (hS _ hC2).mono ?_
 rintro v σ3 ⟨rfl, rfl⟩
 generalize [97, 98] ++ le32 (ckN [97, 98]) = sx at *
 simp (disch := first | assumption | omega) only [go_sem, ↓reduceIte]
 refine (hO _ hC2).mono ?_
 rintro v σ4 ⟨rfl, rfl⟩
 simp (disch := first | assumption | omega) only [go_sem, Nat.reduceEqDiff, ↓reduceIte]
 refine hP.use ?_
 simp (disch := first | assumption | omega) only [go_sem, Nat.reduceEqDiff, ↓reduceIte, Int.reduceNeg]
 exact retC_by h2.drop (.refl _) ⟨rfl, rfl⟩
end Go.A
namespace Go.A
open Go.Proofs Go.Lib Go.Vint
def frD (m : Int) (h0 : List UInt8) (X : List (List UInt8)) (pt : Int) : Dsk := ⟨imgF 0 (h0 :: (X ++ [le32 4294967295])), m, [X.length + 1], (List.replicate (X.length + 2) false).set (X.length + 1) true, -1, -1, 0, pt⟩
theorem all_app {h0 : List UInt8} {X : List (List UInt8)} (h : ∀ s ∈ h0 :: X, s.length ≤ 504) {y : List UInt8} (hy : y.length ≤ 504) : ∀ s ∈ h0 :: (X ++ [y]), s.length ≤ 504 := fun s hs => by
 rcases List.mem_cons.1 hs with rfl | hs
 ·exact h _ List.mem_cons_self
 ·rcases List.mem_append.1 hs with hs | hs
  ·exact h s (List.mem_cons_of_mem _ hs)
  ·rw [List.mem_singleton.1 hs]; exact hy
theorem frD_ok {m : Int} {h0 : List UInt8} {X : List (List UInt8)} {pt : Int} (h : ∀ s ∈ h0 :: X, s.length ≤ 504) (hm : (X.length : Int) + 2 ≤ m ∧ m ≤ 60000) (hpt : 0 ≤ pt ∧ pt ≤ 1000000000) : (frD m h0 X pt).ok := by
 have hl : ((List.replicate (X.length + 2) false).set (X.length + 1) true).length = X.length + 2 := by rw [List.length_set, List.length_replicate]
 refine ⟨?_, ?_, ?_, ?_, ?_, ⟨(by decide : (-1 : Int) ≤ -1), (by decide : (-1 : Int) ≤ 1000000000)⟩, ⟨(by decide : (-1 : Int) ≤ -1), (by decide : (-1 : Int) ≤ 1000000000)⟩, ⟨(by decide : (0 : Int) ≤ 0), (by decide : (0 : Int) ≤ 1000000000)⟩, hpt⟩
 ·show (imgF 0 (h0 :: (X ++ [le32 4294967295]))).length = ((List.replicate (X.length + 2) false).set (X.length + 1) true).length * 512
  rw [imgF_len (all_app h (by rw [le32_len]; decide)), hl, List.length_cons, List.length_append]
  rfl
 ·show 1 ≤ ((List.replicate (X.length + 2) false).set (X.length + 1) true).length
  omega
 ·show (((List.replicate (X.length + 2) false).set (X.length + 1) true).length : Int) ≤ m ∧ m ≤ 60000
  omega
 ·intro p hp
  have hp : p ∈ [X.length + 1] := hp
  rw [List.mem_singleton.1 hp]
  show X.length + 1 < ((List.replicate (X.length + 2) false).set (X.length + 1) true).length
  omega
 ·show [X.length + 1].length ≤ ((List.replicate (X.length + 2) false).set (X.length + 1) true).length
  rw [hl, List.length_singleton]
  omega
theorem gave_spD {m : Int} {h0 : List UInt8} {X : List (List UInt8)} {pt : Int} (h : ∀ s ∈ h0 :: X, s.length ≤ 504) : gaveP (spD m h0 (X ++ [[]]) pt) (X.length + 1) = frD m h0 X (pt + 1) := by
 have h2 := all_app h (y := []) (by decide)
 have e : layP (imgF 0 (h0 :: (X ++ [[]]))) (X.length + 1) (le32 4294967295) = imgF 0 (h0 :: (X ++ [le32 4294967295])) := by
  rw [lay_img h2 (by simp)]
  congr 1
  show h0 :: (X ++ [[]]).set X.length (le32 4294967295) = _
  rw [List.set_append_right _ _ (Nat.le_refl _), Nat.sub_self]
  rfl
 have hn : (X ++ [([] : List UInt8)]).length + 1 = X.length + 2 := by rw [List.length_append]; rfl
 unfold gaveP spD frD
 dsimp only
 rw [e, hn]
theorem retook_frD {m : Int} {h0 : List UInt8} {X : List (List UInt8)} {pt : Int} (h : ∀ s ∈ h0 :: X, s.length ≤ 504) : retookP (frD m h0 X pt) (X.length + 1) = spD m h0 (X ++ [[]]) (pt + 1) := by
 have h2 := all_app h (y := le32 4294967295) (by rw [le32_len]; decide)
 have e : layP (imgF 0 (h0 :: (X ++ [le32 4294967295]))) (X.length + 1) [] = imgF 0 (h0 :: (X ++ [[]])) := by
  rw [lay_img h2 (by simp)]
  congr 1
  show h0 :: (X ++ [le32 4294967295]).set X.length [] = _
  rw [List.set_append_right _ _ (Nat.le_refl _), Nat.sub_self]
  rfl
 have hn : (X ++ [([] : List UInt8)]).length + 1 = X.length + 2 := by rw [List.length_append]; rfl
 have e2 : ((List.replicate (X.length + 2) false).set (X.length + 1) true).set (X.length + 1) false = List.replicate (X.length + 2) false := by
  rw [List.set_set]
  refine List.ext_getElem? fun i => ?_
  rw [List.getElem?_set, List.getElem?_replicate, List.length_replicate]
  by_cases hi : X.length + 1 = i
  ·subst hi; simp
  ·simp [hi]
 unfold retookP spD frD
 dsimp only
 rw [e, e2, hn]
theorem flush_frD {m : Int} {h0 : List UInt8} {X : List (List UInt8)} {pt : Int} (h : ∀ s ∈ h0 :: X, s.length ≤ 504) : flushP (frD m h0 X pt) = (frD m (headL (X.length + 2) (X.length + 1)) X (pt + 1), 0) := by
 have h2 := all_app h (y := le32 4294967295) (by rw [le32_len]; decide)
 have e0 : headP (frD m h0 X pt) = headL (X.length + 2) (X.length + 1) := by
  unfold headP headL
  have : (frD m h0 X pt).isF.length = X.length + 2 := by
   show ((List.replicate (X.length + 2) false).set (X.length + 1) true).length = _
   rw [List.length_set, List.length_replicate]
  rw [this]
  rfl
 have e : layP (imgF 0 (h0 :: (X ++ [le32 4294967295]))) 0 (headL (X.length + 2) (X.length + 1)) = imgF 0 (headL (X.length + 2) (X.length + 1) :: (X ++ [le32 4294967295])) := by
  rw [lay_img h2 (by simp)]
  rfl
 unfold flushP
 rw [e0]
 have ef : failD (frD m h0 X pt).wl = (-1, 0) := rfl
 rw [ef, if_neg (by decide)]
 have e1 : (frD m h0 X pt).b = imgF 0 (h0 :: (X ++ [le32 4294967295])) := rfl
 rw [e1, e]
 rfl
def OpenR (N n : Nat) (b : List UInt8) (σ : ASt) (v : AV) (σ' : ASt) : Prop := ∃ x B cB rB fv I cI rI D, v = .tuple [.ptr x 0, .int .i64 0] ∧ D.b = b ∧ D.isF.length = n ∧ D.rl = -1 ∧ (∀ i, i < N → D.isF[i + 1]? = some false) ∧ RM σ x (withRd D 0) σ' B cB rB fv I cI rI
theorem open_sp {σ : ASt} (hT : CkT σ) {X : List (List UInt8)} (hX : ∀ s ∈ X, s.length ≤ 504) (hl : X.length ≤ 18) {N : Nat} (hN : N ≤ X.length) :
  ACalls Tryd.prog 12 [.str (imgF 0 (headL (X.length + 1) 4294967295 :: X)), .int .i64 20] σ (OpenR N (X.length + 1) (imgF 0 (headL (X.length + 1) 4294967295 :: X)) σ) := by
 have hall : ∀ s ∈ headL (X.length + 1) 4294967295 :: X, s.length ≤ 504 := fun s hs => by
  rcases List.mem_cons.1 hs with rfl | hs
  ·rw [headL_len]; decide
  ·exact hX s hs
 have h0 : lookP (imgF 0 (headL (X.length + 1) 4294967295 :: X)) 0 = some (magicB ++ (le32 (X.length + 1) ++ (le32 4294967295 ++ List.replicate 488 0))) := by
  rw [look_page (pg_img hall (p := 0) rfl) (by decide), head_pad]
  rfl
 have hO := dkopen_ok hT (s := imgF 0 (headL (X.length + 1) 4294967295 :: X)) (n := X.length + 1) (pages := 20) (m := 20) (by omega) (by rw [imgF_len hall]; rfl) (by decide) (by omega) (fun h hh => ⟨List.replicate 488 0, by rw [h0] at hh; exact (Option.some.inj hh).symm⟩)
 rw [h0] at hO
 refine hO.mono ?_
 rintro v σ' ⟨x, B, cB, rB, fv, I, cI, rI, rfl, hR⟩
 refine ⟨x, B, cB, rB, fv, I, cI, rI, openD (imgF 0 (headL (X.length + 1) 4294967295 :: X)) (X.length + 1) 20, rfl, rfl, ?_, rfl, fun i hi => ?_, hR⟩
 ·exact List.length_replicate
 ·show (List.replicate (X.length + 1) false)[i + 1]? = some false
  rw [List.getElem?_replicate, if_pos (by omega)]
theorem open_fr {σ : ASt} (hT : CkT σ) {X : List (List UInt8)} (hX : ∀ s ∈ X, s.length ≤ 504) (hl : X.length ≤ 18) {N : Nat} (hN : N ≤ X.length) :
  ACalls Tryd.prog 12 [.str (imgF 0 (headL (X.length + 2) (X.length + 1) :: (X ++ [le32 4294967295]))), .int .i64 20] σ (OpenR N (X.length + 2) (imgF 0 (headL (X.length + 2) (X.length + 1) :: (X ++ [le32 4294967295]))) σ) := by
 have hall : ∀ s ∈ headL (X.length + 2) (X.length + 1) :: (X ++ [le32 4294967295]), s.length ≤ 504 := all_app (fun s hs => by
  rcases List.mem_cons.1 hs with rfl | hs
  ·rw [headL_len]; decide
  ·exact hX s hs) (by rw [le32_len]; decide)
 have h0 : lookP (imgF 0 (headL (X.length + 2) (X.length + 1) :: (X ++ [le32 4294967295]))) 0 = some (magicB ++ (le32 (X.length + 2) ++ (le32 (X.length + 1) ++ List.replicate 488 0))) := by
  rw [look_page (pg_img hall (p := 0) rfl) (by decide), head_pad]
  rfl
 have h1 : lookP (imgF 0 (headL (X.length + 2) (X.length + 1) :: (X ++ [le32 4294967295]))) (X.length + 1) = some (le32 4294967295 ++ List.replicate 500 0) := by
  rw [look_page (pg_img hall (p := X.length + 1) (s := le32 4294967295) (by rw [List.getElem?_cons_succ, List.getElem?_append_right (Nat.le_refl _), Nat.sub_self]; rfl)) (by omega)]
  rfl
 refine (dkopen1_ok hT (s := imgF 0 (headL (X.length + 2) (X.length + 1) :: (X ++ [le32 4294967295]))) (n := X.length + 2) (k := X.length + 1) (pages := 20) (m := 20) (by omega) (by rw [imgF_len hall, List.length_cons, List.length_append]; rfl) (by decide) (by omega) (by omega) (by omega) h0 h1).mono ?_
 rintro v σ' ⟨x, B, cB, rB, fv, I, cI, rI, rfl, hR⟩
 refine ⟨x, B, cB, rB, fv, I, cI, rI, openD1 (imgF 0 (headL (X.length + 2) (X.length + 1) :: (X ++ [le32 4294967295]))) (X.length + 2) 20 (X.length + 1), rfl, rfl, ?_, rfl, fun i hi => ?_, hR⟩
 ·show ((List.replicate (X.length + 2) false).set (X.length + 1) true).length = _
  rw [List.length_set, List.length_replicate]
 ·show ((List.replicate (X.length + 2) false).set (X.length + 1) true)[i + 1]? = some false
  rw [List.getElem?_set_ne (by omega), List.getElem?_replicate, if_pos (by omega)]
theorem dktake_any {base s : ASt} {d : Nat} {h0 : List UInt8} {X : List (List UInt8)} {pt : Int} (h : ∀ s ∈ h0 :: X, s.length ≤ 504) (hl : X.length ≤ 18) (hpt : 0 ≤ pt ∧ pt ≤ 1000) (hck : CkT base) (hD : DiskAt base d (spD 20 h0 X pt) s ∨ DiskAt base d (frD 20 h0 X pt) s) :
  ACalls Tryd.prog 7 [.ptr d 0] s fun v σ' => v = .tuple [.int .i64 ((X.length + 1 : Nat) : Int), .int .i64 0] ∧ DiskAt base d (spD 20 h0 (X ++ [[]]) (pt + 1)) σ' := by
 rcases hD with hD | hD
 ·have hD' := hD
  obtain ⟨B, cB, rB, fv, F', I, cI, rI, hDM⟩ := hD
  have hi : (spD 20 h0 X pt).isF.length = X.length + 1 := List.length_replicate
  have hK := dktake_new (hD'.at hck) hDM hck (spD_ok h (by omega) (by omega)) rfl (by rw [hi]; show ((X.length + 1 : Nat) : Int) < 20; omega) rfl (by show pt < 1000000000; omega)
  rw [hi, took_spD h] at hK
  exact hK
 ·obtain ⟨B, cB, rB, fv, F', I, cI, rI, hDM⟩ := hD
  have hK := dktake_free hDM hck (frD_ok h (by omega) (by omega)) (p := X.length + 1) rfl rfl (by show pt < 1000000000; omega)
  rw [retook_frD h] at hK
  exact hK
theorem dkgive_at {base s : ASt} {d : Nat} {h0 : List UInt8} {X : List (List UInt8)} {pt : Int} (h : ∀ s ∈ h0 :: X, s.length ≤ 504) (hl : X.length ≤ 18) (hpt : 0 ≤ pt ∧ pt ≤ 1000) (hck : CkT base) (hD : DiskAt base d (spD 20 h0 (X ++ [[]]) pt) s) :
  ACalls Tryd.prog 19 [.ptr d 0, .int .i64 ((X.length + 1 : Nat) : Int)] s fun v σ' => v = .int .i64 0 ∧ DiskAt base d (frD 20 h0 X (pt + 1)) σ' := by
 obtain ⟨B, cB, rB, fv, F', I, cI, rI, hDM⟩ := hD
 have hn : (X ++ [([] : List UInt8)]).length = X.length + 1 := by rw [List.length_append]; rfl
 have hi : (spD 20 h0 (X ++ [[]]) pt).isF.length = X.length + 2 := by
  show (List.replicate ((X ++ [[]]).length + 1) false).length = _
  rw [List.length_replicate, hn]
 have hK := dkgive_ok hDM hck (spD_ok (all_app h (by decide)) (by omega) (by omega)) rfl rfl (by show pt < 1000000000; omega) (p := X.length + 1) (by omega) (by rw [hi]; omega) (by show (List.replicate ((X ++ [[]]).length + 1) false)[X.length + 1]? = some false; rw [List.getElem?_replicate, if_pos (by omega)])
 rw [gave_spD h] at hK
 exact hK
set_option maxHeartbeats 1000000 in
theorem pages3 {σ base s : ASt} {d n N : Nat} {D D' : Dsk} {LL : List (List Int)} {kp kt : SK} (hD : DiskAt base d D s) (hck : CkT base) (ho : D.ok) (hpt : D.pt < 1000000000) (hfl : flushP D = (D', 0)) (hO : ∀ σ3, CkT σ3 → ACalls Tryd.prog 12 [.str D'.b, .int .i64 20] σ3 (OpenR N n D'.b σ3)) (hdr : Drop base σ)
  (hN : N ≤ LL.length) (hN8 : N ≤ 8) (hbl : D'.b.length = n * 512) (hn6 : n ≤ 60000) (hNn : N < n) (hlk : ∀ i l, i < N → LL[i]? = some l → lookP D'.b (i + 1) = some (fullP (tB l))) (a1 : AFr)
  (hf : a1 0 = .sl .shr (LL.map decsV) ∧ a1 5 = .ptr d 0 ∧ a1 6 = .sl kp (pgsV N) ∧ a1 7 = .sl kt (txsV (LL.take N))) :
  ACode.wp Tryd.prog c4_141 (RetQ [.t 4] fun v σ' => v = .bool true ∧ σ' = σ) a1 s := by
 have hTs : CkT s := hD.at hck
 obtain ⟨B, cB, rB, fv, F', I, cI, rI, hDM⟩ := hD
 have hF := dkflush_ok hTs hDM ho hpt
 rw [hfl] at hF
 dsimp only at hF
 have h4 := fun (σ3 s : ASt) (x B cB I cI : Nat) (rB rI : List AV) (fv : AV) (D2 : Dsk) (hb : D2.b = D'.b) (hil : D2.isF.length = n) (hrl : D2.rl = -1) (hif : ∀ i, i < N → D2.isF[i + 1]? = some false) (hR : RM σ3 x (withRd D2 0) s B cB rB fv I cI rI) (hT : CkT σ3) (hD : Drop σ3 σ) (a1 : AFr) =>
  pages4 (kp := kp) (kt := kt) hN hN8 (by rw [hb]; exact hbl) hn6 hNn hil hrl hif (by rw [hb]; exact hlk) hR hT hD a1
 generalize LL.map decsV = LS at *
 generalize pgsV N = PG at *
 generalize txsV (LL.take N) = TX at *
 obtain ⟨G, hG⟩ : ∃ G, G = ACode.wp Tryd.prog c4_138 := ⟨_, rfl⟩
 rw [← hG] at h4
 simp (disch := first | assumption | omega | (simp only [List.length_append, List.length_cons, List.length_nil]; omega)) only [go_sem, reduceCtorEq, Nat.reduceEqDiff, Nat.reduceAdd, Nat.reduceSub, Nat.reduceMul, Nat.reduceLeDiff, Int.reduceLT, Int.reduceLE, Int.reduceEq, ↓reduceIte, Int.reduceNeg, Int.reduceAdd, Int.reduceSub, Int.reduceMul, true_imp_iff, forall_const, Nat.mul_one, Int.reduceToNat, Nat.reducePow, Int.reducePow, Bool.true_and, Bool.false_and, Bool.and_false, hf, ←hG]
 refine hF.mono ?_
 rintro v s2 ⟨rfl, rB', hD3⟩
 have hby := dkbytes_ok hD3.lm
 have hdr3 := hD3.drop.trans hdr
 have hT3 : CkT s2 := hD3.at hck
 simp (disch := first | assumption | omega | (simp only [List.length_append, List.length_cons, List.length_nil]; omega)) only [go_sem, reduceCtorEq, Nat.reduceEqDiff, Nat.reduceAdd, Nat.reduceSub, Nat.reduceMul, Nat.reduceLeDiff, Int.reduceLT, Int.reduceLE, Int.reduceEq, ↓reduceIte, Int.reduceNeg, Int.reduceAdd, Int.reduceSub, Int.reduceMul, true_imp_iff, forall_const, Nat.mul_one, Int.reduceToNat, Nat.reducePow, Int.reducePow, Bool.true_and, Bool.false_and, Bool.and_false, hf, ←hG]
 refine hby.mono ?_
 rintro v s3 ⟨rfl, rfl⟩
 simp (disch := first | assumption | omega | (simp only [List.length_append, List.length_cons, List.length_nil]; omega)) only [go_sem, reduceCtorEq, Nat.reduceEqDiff, Nat.reduceAdd, Nat.reduceSub, Nat.reduceMul, Nat.reduceLeDiff, Int.reduceLT, Int.reduceLE, Int.reduceEq, ↓reduceIte, Int.reduceNeg, Int.reduceAdd, Int.reduceSub, Int.reduceMul, true_imp_iff, forall_const, Nat.mul_one, Int.reduceToNat, Nat.reducePow, Int.reducePow, Bool.true_and, Bool.false_and, Bool.and_false, ←hG]
 refine (hO _ hT3).mono ?_
 rintro v s4 ⟨x, B2, cB2, rB2, fv2, I2, cI2, rI2, D2, rfl, hb2, hil, hrl, hif, hR⟩
 simp (disch := first | assumption | omega | (simp only [List.length_append, List.length_cons, List.length_nil]; omega)) only [go_sem, reduceCtorEq, Nat.reduceEqDiff, Nat.reduceAdd, Nat.reduceSub, Nat.reduceMul, Nat.reduceLeDiff, Int.reduceLT, Int.reduceLE, Int.reduceEq, ↓reduceIte, Int.reduceNeg, Int.reduceAdd, Int.reduceSub, Int.reduceMul, true_imp_iff, forall_const, Nat.mul_one, Int.reduceToNat, Nat.reducePow, Int.reducePow, Bool.true_and, Bool.false_and, Bool.and_false, ←hG]
 refine h4 _ _ _ _ _ _ _ _ _ _ _ hb2 hil hrl hif hR hT3 hdr3 _ ?_
 simp (disch := first | assumption | omega | (simp only [List.length_append, List.length_cons, List.length_nil]; omega)) only [go_sem, reduceCtorEq, Nat.reduceEqDiff, Nat.reduceAdd, Nat.reduceSub, Nat.reduceMul, Nat.reduceLeDiff, Int.reduceLT, Int.reduceLE, Int.reduceEq, ↓reduceIte, Int.reduceNeg, Int.reduceAdd, Int.reduceSub, Int.reduceMul, true_imp_iff, forall_const, Nat.mul_one, Int.reduceToNat, Nat.reducePow, Int.reducePow, Bool.true_and, Bool.false_and, Bool.and_false, hf]
theorem mid_look {hd : List UInt8} {M Y : List (List UInt8)} (hh : ∀ s ∈ hd :: (M ++ Y), s.length ≤ 504) {i : Nat} {t : List UInt8} (h : M[i]? = some t) (ht : t.length = 504) (hi : i < 1000) : lookP (imgF 0 (hd :: (M ++ Y))) (i + 1) = some t := by
 have hiM := (List.getElem?_eq_some_iff.1 h).1
 rw [look_page (pg_img hh (p := i + 1) (s := t) (by rw [List.getElem?_cons_succ, List.getElem?_append_left hiM]; exact h)) (by omega), padB_full ht]
set_option maxHeartbeats 1000000 in
theorem pages2 {σ base s : ASt} {d N : Nat} {h0 : List UInt8} {LL : List (List Int)} {G : List Int} {kp kt : SK} {pt : Int} (hh0 : h0.length ≤ 504) (hN : N ≤ LL.length) (hN8 : N ≤ 8) (hpt : 0 ≤ pt ∧ pt ≤ 100)
  (hD : DiskAt base d (spD 20 h0 ((LL.take N).map fun l => fullP (tB l)) pt) s) (hck : CkT base) (hdr : Drop base σ) (a1 : AFr)
  (hf : a1 0 = .sl .shr (LL.map decsV) ∧ a1 1 = .sl .shr (G.map (AV.int .i64)) ∧ a1 5 = .ptr d 0 ∧ a1 6 = .sl kp (pgsV N) ∧ a1 7 = .sl kt (txsV (LL.take N))) :
  ACode.wp Tryd.prog c4_142 (RetQ [.t 4] fun v σ' => v = .bool true ∧ σ' = σ) a1 s := by
 obtain ⟨M, hM⟩ : ∃ M, M = (LL.take N).map fun l => fullP (tB l) := ⟨_, rfl⟩
 have hMl : M.length = N := by rw [hM, List.length_map, List.length_take]; omega
 have hMs : ∀ s ∈ M, s.length ≤ 504 := fun s hs => by
  rw [hM] at hs
  obtain ⟨t, _, rfl⟩ := List.mem_map.1 hs
  rw [fullP_len]; decide
 have hMg : ∀ i l, i < N → LL[i]? = some l → M[i]? = some (fullP (tB l)) := fun i l h h2 => by
  rw [hM, List.getElem?_map, List.getElem?_take, if_pos h, h2]
  rfl
 rw [← hM] at hD
 clear hM
 obtain ⟨F, hF⟩ : ∃ F, F = ACode.wp Tryd.prog c4_141 := ⟨_, rfl⟩
 have h3 := fun (s : ASt) (n : Nat) (D D' : Dsk) (hD : DiskAt base d D s) (ho : D.ok) (hpt : D.pt < 1000000000) (hfl : flushP D = (D', 0)) (hO) (hbl) (hn6) (hNn) (hlk) (a1 : AFr) => pages3 (σ := σ) (n := n) (N := N) (LL := LL) (kp := kp) (kt := kt) hD hck ho hpt hfl hO hdr hN hN8 hbl hn6 hNn hlk a1
 rw [← hF] at h3
 generalize LL.map decsV = LS at *
 generalize pgsV N = PG at *
 generalize txsV (LL.take N) = TX at *
 have hgl : ((G.map (AV.int .i64)).length : Int) = (G.length : Int) := by rw [List.length_map]
 obtain ⟨J, hJ⟩ : ∃ J : Nat → AFr → ASt → Prop, J = fun j a2 s2 => (j ≤ 5 ∧ j ≤ G.length) ∧ (a2 0 = .sl .shr LS ∧ a2 1 = .sl .shr (G.map (AV.int .i64)) ∧ a2 5 = .ptr d 0 ∧ a2 6 = .sl kp PG ∧ a2 7 = .sl kt TX ∧ a2 14 = .int .i64 j) ∧ ∃ E pt, E.length ≤ j ∧ (∀ e ∈ E, e.length ≤ 504) ∧ (0 ≤ pt ∧ pt ≤ 100 + 2 * (j : Int)) ∧ (DiskAt base d (spD 20 h0 (M ++ E) pt) s2 ∨ DiskAt base d (frD 20 h0 (M ++ E) pt) s2) := ⟨_, rfl⟩
 simp (disch := first | assumption | omega | (simp only [List.length_append, List.length_cons, List.length_nil]; omega)) only [go_sem, reduceCtorEq, Nat.reduceEqDiff, Nat.reduceAdd, Nat.reduceSub, Nat.reduceMul, Nat.reduceLeDiff, Int.reduceLT, Int.reduceLE, Int.reduceEq, ↓reduceIte, Int.reduceNeg, Int.reduceAdd, Int.reduceSub, Int.reduceMul, true_imp_iff, forall_const, Nat.mul_one, Int.reduceToNat, Nat.reducePow, Int.reducePow, Bool.true_and, Bool.false_and, Bool.and_false, hf, ←hF]
 refine wp_loop_on J (fun j => 5 - j) 0 ?_ ?_
 ·rw [hJ]
  refine ⟨⟨Nat.zero_le _, Nat.zero_le _⟩, ?_, [], pt, Nat.le_refl _, (fun e he => by cases he), by omega, .inl (by rw [List.append_nil]; exact hD)⟩
  simp (disch := first | assumption | omega | (simp only [List.length_append, List.length_cons, List.length_nil]; omega)) only [go_sem, reduceCtorEq, Nat.reduceEqDiff, Nat.reduceAdd, Nat.reduceSub, Nat.reduceMul, Nat.reduceLeDiff, Int.reduceLT, Int.reduceLE, Int.reduceEq, ↓reduceIte, Int.reduceNeg, Int.reduceAdd, Int.reduceSub, Int.reduceMul, true_imp_iff, forall_const, Nat.mul_one, Int.reduceToNat, Nat.reducePow, Int.reducePow, Bool.true_and, Bool.false_and, Bool.and_false, hf]
 clear hf hD
 intro j a2 s2 hjj
 rw [hJ] at hjj
 obtain ⟨⟨hj5, hjl⟩, hf, E, pt2, hE, hEs, hpt2, hD⟩ := hjj
 have hall : ∀ s ∈ h0 :: (M ++ E), s.length ≤ 504 := fun s hs => by
  rcases List.mem_cons.1 hs with rfl | hs
  ·exact hh0
  ·rcases List.mem_append.1 hs with hs | hs
   ·exact hMs s hs
   ·exact hEs s hs
 have hXl : (M ++ E).length = N + E.length := by rw [List.length_append, hMl]
 by_cases hlt : j < G.length ∧ j < 5
 ·have hj1 : (j : Int) < (G.length : Int) := by omega
  have hj2 : (j : Int) < 5 := by omega
  have hK := dktake_any hall (by omega) (by omega) hck hD
  have hVV := fun (s3 : ASt) (hD2 : DiskAt base d (spD 20 h0 ((M ++ E) ++ [[]]) (pt2 + 1)) s3) => dkgive_at hall (by omega) (by omega) hck hD2
  obtain ⟨pn, hpn⟩ : ∃ pn, pn = (M ++ E).length + 1 := ⟨_, rfl⟩
  rw [← hpn] at hK hVV
  obtain ⟨g, hg⟩ : ∃ g, G[j]? = some g := ⟨_, List.getElem?_eq_getElem hlt.1⟩
  have hgx : (G.map (AV.int .i64))[j]? = some (.int .i64 g) := by rw [List.getElem?_map, hg]; rfl
  generalize G.map (AV.int .i64) = GA at *
  simp (disch := first | assumption | omega | (simp only [List.length_append, List.length_cons, List.length_nil]; omega)) only [go_sem, reduceCtorEq, Nat.reduceEqDiff, Nat.reduceAdd, Nat.reduceSub, Nat.reduceMul, Nat.reduceLeDiff, Int.reduceLT, Int.reduceLE, Int.reduceEq, ↓reduceIte, Int.reduceNeg, Int.reduceAdd, Int.reduceSub, Int.reduceMul, true_imp_iff, forall_const, Nat.mul_one, Int.reduceToNat, Nat.reducePow, Int.reducePow, Bool.true_and, Bool.false_and, Bool.and_false, hf, hgl, hj1, hj2, ←hF]
  refine hK.mono ?_
  rintro v s3 ⟨rfl, hD2⟩
  by_cases h2 : g.tmod 2 = 0
  ·have hV := hVV _ hD2
   simp (disch := first | assumption | omega | (simp only [List.length_append, List.length_cons, List.length_nil]; omega)) only [go_sem, reduceCtorEq, Nat.reduceEqDiff, Nat.reduceAdd, Nat.reduceSub, Nat.reduceMul, Nat.reduceLeDiff, Int.reduceLT, Int.reduceLE, Int.reduceEq, ↓reduceIte, Int.reduceNeg, Int.reduceAdd, Int.reduceSub, Int.reduceMul, true_imp_iff, forall_const, Nat.mul_one, Int.reduceToNat, Nat.reducePow, Int.reducePow, Bool.true_and, Bool.false_and, Bool.and_false, hf, hgx, h2, Int.toNat_natCast, ←hF]
   refine hV.mono ?_
   rintro v s4 ⟨rfl, hD3⟩
   simp (disch := first | assumption | omega | (simp only [List.length_append, List.length_cons, List.length_nil]; omega)) only [go_sem, reduceCtorEq, Nat.reduceEqDiff, Nat.reduceAdd, Nat.reduceSub, Nat.reduceMul, Nat.reduceLeDiff, Int.reduceLT, Int.reduceLE, Int.reduceEq, ↓reduceIte, Int.reduceNeg, Int.reduceAdd, Int.reduceSub, Int.reduceMul, true_imp_iff, forall_const, Nat.mul_one, Int.reduceToNat, Nat.reducePow, Int.reducePow, Bool.true_and, Bool.false_and, Bool.and_false, hf, ←hF]
   refine ⟨j + 1, by omega, ?_⟩
   rw [hJ]
   refine ⟨by omega, ?_, E, pt2 + 1 + 1, by omega, hEs, by omega, .inr hD3⟩
   simp (disch := first | assumption | omega | (simp only [List.length_append, List.length_cons, List.length_nil]; omega)) only [go_sem, reduceCtorEq, Nat.reduceEqDiff, Nat.reduceAdd, Nat.reduceSub, Nat.reduceMul, Nat.reduceLeDiff, Int.reduceLT, Int.reduceLE, Int.reduceEq, ↓reduceIte, Int.reduceNeg, Int.reduceAdd, Int.reduceSub, Int.reduceMul, true_imp_iff, forall_const, Nat.mul_one, Int.reduceToNat, Nat.reducePow, Int.reducePow, Bool.true_and, Bool.false_and, Bool.and_false, hf]
  ·simp (disch := first | assumption | omega | (simp only [List.length_append, List.length_cons, List.length_nil]; omega)) only [go_sem, reduceCtorEq, Nat.reduceEqDiff, Nat.reduceAdd, Nat.reduceSub, Nat.reduceMul, Nat.reduceLeDiff, Int.reduceLT, Int.reduceLE, Int.reduceEq, ↓reduceIte, Int.reduceNeg, Int.reduceAdd, Int.reduceSub, Int.reduceMul, true_imp_iff, forall_const, Nat.mul_one, Int.reduceToNat, Nat.reducePow, Int.reducePow, Bool.true_and, Bool.false_and, Bool.and_false, hf, hgx, h2, Int.toNat_natCast, ←hF]
   refine ⟨j + 1, by omega, ?_⟩
   rw [hJ]
   refine ⟨by omega, ?_, E ++ [[]], pt2 + 1, by rw [List.length_append]; simp only [List.length_singleton]; omega, (fun e he => ?_), by omega, .inl (by rw [← List.append_assoc]; exact hD2)⟩
   ·simp (disch := first | assumption | omega | (simp only [List.length_append, List.length_cons, List.length_nil]; omega)) only [go_sem, reduceCtorEq, Nat.reduceEqDiff, Nat.reduceAdd, Nat.reduceSub, Nat.reduceMul, Nat.reduceLeDiff, Int.reduceLT, Int.reduceLE, Int.reduceEq, ↓reduceIte, Int.reduceNeg, Int.reduceAdd, Int.reduceSub, Int.reduceMul, true_imp_iff, forall_const, Nat.mul_one, Int.reduceToNat, Nat.reducePow, Int.reducePow, Bool.true_and, Bool.false_and, Bool.and_false, hf]
   ·rcases List.mem_append.1 he with he | he
    ·exact hEs e he
    ·rw [List.mem_singleton.1 he]; decide
 ·have hgo : ∀ a3 : AFr, (a3 0 = .sl .shr LS ∧ a3 5 = .ptr d 0 ∧ a3 6 = .sl kp PG ∧ a3 7 = .sl kt TX) → F (RetQ [.t 4] fun v σ' => v = .bool true ∧ σ' = σ) a3 s2 := by
   intro a3 hf3
   rcases hD with hD | hD
   ·have hfl := flush_spD (m := 20) (pt := pt2) hall
    have hX : ∀ s ∈ M ++ E, s.length ≤ 504 := fun s hs => hall s (List.mem_cons_of_mem _ hs)
    have hall2 : ∀ s ∈ headL ((M ++ E).length + 1) 4294967295 :: (M ++ E), s.length ≤ 504 := fun s hs => by
     rcases List.mem_cons.1 hs with rfl | hs
     ·rw [headL_len]; decide
     ·exact hX s hs
    exact h3 s2 ((M ++ E).length + 1) _ _ hD (spD_ok hall (by omega) (by omega)) (by show pt2 < 1000000000; omega) hfl (fun σ3 hT => open_sp hT hX (by omega) (by omega)) (by show (imgF 0 (headL ((M ++ E).length + 1) 4294967295 :: (M ++ E))).length = _; rw [imgF_len hall2]; rfl) (by omega) (by omega) (fun i l hi hl => mid_look hall2 (hMg i l hi hl) (fullP_len _) (by omega)) a3 hf3
   ·have hfl := flush_frD (m := 20) (pt := pt2) hall
    have hX : ∀ s ∈ M ++ E, s.length ≤ 504 := fun s hs => hall s (List.mem_cons_of_mem _ hs)
    have hall2 : ∀ s ∈ headL ((M ++ E).length + 2) ((M ++ E).length + 1) :: ((M ++ E) ++ [le32 4294967295]), s.length ≤ 504 := all_app (fun s hs => by
     rcases List.mem_cons.1 hs with rfl | hs
     ·rw [headL_len]; decide
     ·exact hX s hs) (by rw [le32_len]; decide)
    have hall3 := hall2
    rw [List.append_assoc] at hall3
    refine h3 s2 ((M ++ E).length + 2) _ _ hD (frD_ok hall (by omega) (by omega)) (by show pt2 < 1000000000; omega) hfl (fun σ3 hT => open_fr hT hX (by omega) (by omega)) (by show (imgF 0 (headL ((M ++ E).length + 2) ((M ++ E).length + 1) :: ((M ++ E) ++ [le32 4294967295]))).length = _; rw [imgF_len hall2, List.length_cons, List.length_append]; rfl) (by omega) (by omega) (fun i l hi hl => ?_) a3 hf3
    show lookP (imgF 0 (headL ((M ++ E).length + 2) ((M ++ E).length + 1) :: ((M ++ E) ++ [le32 4294967295]))) (i + 1) = _
    rw [List.append_assoc]
    rw [List.append_assoc] at hall2
    exact mid_look hall3 (hMg i l hi hl) (fullP_len _) (by omega)
  by_cases h1 : j < G.length
  ·have hj1 : (j : Int) < (G.length : Int) := by omega
   have hj2 : ¬ (j : Int) < 5 := by omega
   simp (disch := first | assumption | omega | (simp only [List.length_append, List.length_cons, List.length_nil]; omega)) only [go_sem, reduceCtorEq, Nat.reduceEqDiff, Nat.reduceAdd, Nat.reduceSub, Nat.reduceMul, Nat.reduceLeDiff, Int.reduceLT, Int.reduceLE, Int.reduceEq, ↓reduceIte, Int.reduceNeg, Int.reduceAdd, Int.reduceSub, Int.reduceMul, true_imp_iff, forall_const, Nat.mul_one, Int.reduceToNat, Nat.reducePow, Int.reducePow, Bool.true_and, Bool.false_and, Bool.and_false, hf, hgl, hj1, hj2, ←hF]
   refine hgo _ ?_
   simp (disch := first | assumption | omega | (simp only [List.length_append, List.length_cons, List.length_nil]; omega)) only [go_sem, reduceCtorEq, Nat.reduceEqDiff, Nat.reduceAdd, Nat.reduceSub, Nat.reduceMul, Nat.reduceLeDiff, Int.reduceLT, Int.reduceLE, Int.reduceEq, ↓reduceIte, Int.reduceNeg, Int.reduceAdd, Int.reduceSub, Int.reduceMul, true_imp_iff, forall_const, Nat.mul_one, Int.reduceToNat, Nat.reducePow, Int.reducePow, Bool.true_and, Bool.false_and, Bool.and_false, hf]
  ·have hj1 : ¬ (j : Int) < (G.length : Int) := by omega
   simp (disch := first | assumption | omega | (simp only [List.length_append, List.length_cons, List.length_nil]; omega)) only [go_sem, reduceCtorEq, Nat.reduceEqDiff, Nat.reduceAdd, Nat.reduceSub, Nat.reduceMul, Nat.reduceLeDiff, Int.reduceLT, Int.reduceLE, Int.reduceEq, ↓reduceIte, Int.reduceNeg, Int.reduceAdd, Int.reduceSub, Int.reduceMul, true_imp_iff, forall_const, Nat.mul_one, Int.reduceToNat, Nat.reducePow, Int.reducePow, Bool.true_and, Bool.false_and, Bool.and_false, hf, hgl, hj1, ←hF]
   refine hgo _ ?_
   simp (disch := first | assumption | omega | (simp only [List.length_append, List.length_cons, List.length_nil]; omega)) only [go_sem, reduceCtorEq, Nat.reduceEqDiff, Nat.reduceAdd, Nat.reduceSub, Nat.reduceMul, Nat.reduceLeDiff, Int.reduceLT, Int.reduceLE, Int.reduceEq, ↓reduceIte, Int.reduceNeg, Int.reduceAdd, Int.reduceSub, Int.reduceMul, true_imp_iff, forall_const, Nat.mul_one, Int.reduceToNat, Nat.reducePow, Int.reducePow, Bool.true_and, Bool.false_and, Bool.and_false, hf]
end Go.A
namespace Go.A
open Go.Proofs Go.Lib Go.Vint
theorem wbytes_cell {σ : ASt} {b : Nat} {k : SK} {l : List UInt8} (hb : σ b = some (.obj [.sl k (bytesAV l)])) : ACalls Tryd.prog 18 [.ptr b 0] σ fun v σ' => v = .str l ∧ σ' = σ := by
 refine a18 (by simp) ?_
 simp (disch := first | assumption | omega | (simp only [List.length_append, List.length_cons, List.length_nil]; omega)) only [go_sem, reduceCtorEq, Nat.reduceEqDiff, Nat.reduceAdd, Nat.reduceSub, Nat.reduceMul, Nat.reduceLeDiff, Int.reduceLT, Int.reduceLE, Int.reduceEq, ↓reduceIte, Int.reduceNeg, Int.reduceAdd, Int.reduceSub, Int.reduceMul, true_imp_iff, forall_const, Nat.mul_one, Int.reduceToNat, Nat.reducePow, Int.reducePow, Bool.true_and, Bool.false_and, Bool.and_false, hb]
 exact retC_by (Drop.refl _) (.refl _) ⟨rfl, rfl⟩
theorem Drop.keep {σ σ' : ASt} (h : Drop σ σ') {x : Nat} {r : Role} (hx : σ' x = some r) : σ x = some r := by
 rcases h x with h | h
 ·rw [← h]; exact hx
 ·rw [h] at hx; cases hx
theorem DiskAt.writer {base s1 s3 : ASt} {d b : Nat} {D : Dsk} {l : List UInt8} (hD : DiskAt base d D s1) (hb : s1 b = none) (hW : W s1 b l s3) : ∃ base' k, DiskAt base' d D s3 ∧ base' b = some (.obj [.sl k (bytesAV l)]) ∧ Drop base' base := by
 obtain ⟨k, hg⟩ := hW
 have hbn := hD.gone hb
 have h1 := hD.add (some (.obj [.sl k (bytesAV l)])) hb
 rcases hg with ⟨_, _, rfl⟩ | ⟨X, T, rfl, hX, rfl⟩
 ·exact ⟨_, k, h1, ASt.set_same _ _ _, Drop.set hbn⟩
 ·have hXn := h1.gone hX
  have hne : b ≠ X := by rintro rfl; rw [ASt.set_same] at hX; cases hX
  exact ⟨_, _, h1.add _ hX, by rw [ASt.set_ne hne, ASt.set_same], (Drop.set hXn).trans (Drop.set hbn)⟩
theorem W.keep {s1 s3 : ASt} {b : Nat} {l : List UInt8} (hb : s1 b = none) (hW : W s1 b l s3) {x : Nat} {r : Role} (hx : s1 x = some r) : s3 x = some r := by
 obtain ⟨k, hg⟩ := hW
 refine hg.at ?_
 rw [ASt.set_ne]
 ·exact hx
 ·rintro rfl; rw [hb] at hx; cases hx
def Apart (k q : SK) : Prop := ∀ b T c U, k = .tok b 1 T → q = .tok c 1 U → b ≠ c
theorem TokAt.keep {σ0 base base' : ASt} {k : SK} {n : Nat} (h : TokAt σ0 base k n) (hk : ∀ b T, k = .tok b 1 T → ∀ r, base b = some r → base' b = some r) : TokAt σ0 base' k n := by
 rcases h with ⟨h1, h2⟩ | ⟨b, T, rfl, h1, h2⟩
 ·exact .inl ⟨h1, h2⟩
 ·exact .inr ⟨b, T, rfl, h1, hk b T rfl _ h2⟩
set_option maxHeartbeats 2000000 in
theorem TabularPages_any {σ : ASt} (hT : CkT σ) (hTab : Tab σ) (LL : List (List Int)) (G : List Int) : ACalls Tryd.prog 4 [.sl .shr (LL.map decsV), .sl .shr (G.map (AV.int .i64))] σ fun v σ' => v = .bool true ∧ σ' = σ := by
 have hlv := live_ok hT
 have hN := dknew_ok hT 20
 have e20 : min (max (20 : Int) 2) 60000 = 20 := by decide
 rw [e20, new_spD] at hN
 obtain ⟨h0, hh0⟩ : ∃ h0, h0 = headP (rawP 20) := ⟨_, rfl⟩
 have hh0l : h0.length ≤ 504 := by rw [hh0, headP_len]; decide
 rw [← hh0] at hN
 clear hh0
 obtain ⟨F, hF⟩ : ∃ F, F = ACode.wp Tryd.prog c4_142 := ⟨_, rfl⟩
 have h2 := fun (base s : ASt) (d N : Nat) (kp kt : SK) (pt : Int) (hN : N ≤ LL.length) (hN8 : N ≤ 8) (hpt : 0 ≤ pt ∧ pt ≤ 100) (hD) (hck : CkT base) (hdr : Drop base σ) (a1 : AFr) => pages2 (σ := σ) (base := base) (s := s) (d := d) (N := N) (h0 := h0) (LL := LL) (G := G) (kp := kp) (kt := kt) (pt := pt) hh0l hN hN8 hpt hD hck hdr a1
 rw [← hF] at h2
 have hls : ∀ i l, LL[i]? = some l → (LL.map decsV)[i]? = some (decsV l) := fun i l h => by rw [List.getElem?_map, h]; rfl
 have hll : ((LL.map decsV).length : Int) = (LL.length : Int) := by rw [List.length_map]
 generalize LL.map decsV = LS at *
 generalize G.map (AV.int .i64) = GA at *
 refine a4 (by simp) ?_
 simp (disch := first | assumption | omega | (simp only [List.length_append, List.length_cons, List.length_nil]; omega)) only [go_sem, reduceCtorEq, Nat.reduceEqDiff, Nat.reduceAdd, Nat.reduceSub, Nat.reduceMul, Nat.reduceLeDiff, Int.reduceLT, Int.reduceLE, Int.reduceEq, ↓reduceIte, Int.reduceNeg, Int.reduceAdd, Int.reduceSub, Int.reduceMul, true_imp_iff, forall_const, Nat.mul_one, Int.reduceToNat, Nat.reducePow, Int.reducePow, Bool.true_and, Bool.false_and, Bool.and_false]
 refine hlv.mono ?_
 rintro v σ' ⟨rfl, rfl⟩
 simp (disch := first | assumption | omega | (simp only [List.length_append, List.length_cons, List.length_nil]; omega)) only [go_sem, reduceCtorEq, Nat.reduceEqDiff, Nat.reduceAdd, Nat.reduceSub, Nat.reduceMul, Nat.reduceLeDiff, Int.reduceLT, Int.reduceLE, Int.reduceEq, ↓reduceIte, Int.reduceNeg, Int.reduceAdd, Int.reduceSub, Int.reduceMul, true_imp_iff, forall_const, Nat.mul_one, Int.reduceToNat, Nat.reducePow, Int.reducePow, Bool.true_and, Bool.false_and, Bool.and_false]
 refine hN.mono ?_
 rintro v σ1 ⟨d, rfl, hD1⟩
 obtain ⟨J, hJ⟩ : ∃ J : Nat → AFr → ASt → Prop, J = fun i a s2 => (i ≤ LL.length ∧ i ≤ 8) ∧ ∃ kp kt base, (a 0 = .sl .shr LS ∧ a 1 = .sl .shr GA ∧ a 5 = .ptr d 0 ∧ a 6 = .sl kp (pgsV i) ∧ a 7 = .sl kt (txsV (LL.take i)) ∧ a 8 = .int .i64 i) ∧ DiskAt base d (spD 20 h0 ((LL.take i).map fun l => fullP (tB l)) (1 + 2 * (i : Int))) s2 ∧ Drop base σ' ∧ TokAt σ' base kp i ∧ TokAt σ' base kt i ∧ Apart kp kt := ⟨_, rfl⟩
 simp (disch := first | assumption | omega | (simp only [List.length_append, List.length_cons, List.length_nil]; omega)) only [go_sem, reduceCtorEq, Nat.reduceEqDiff, Nat.reduceAdd, Nat.reduceSub, Nat.reduceMul, Nat.reduceLeDiff, Int.reduceLT, Int.reduceLE, Int.reduceEq, ↓reduceIte, Int.reduceNeg, Int.reduceAdd, Int.reduceSub, Int.reduceMul, true_imp_iff, forall_const, Nat.mul_one, Int.reduceToNat, Nat.reducePow, Int.reducePow, Bool.true_and, Bool.false_and, Bool.and_false, ←hF]
 refine wp_loop_on J (fun i => 8 - i) 0 ?_ ?_
 ·rw [hJ]
  refine ⟨⟨Nat.zero_le _, Nat.zero_le _⟩, .full, .full, σ', ?_, hD1, Drop.refl _, .inl ⟨rfl, rfl⟩, .inl ⟨rfl, rfl⟩, fun b T c U h => by cases h⟩
  have e1 : pgsV 0 = [] := rfl
  have e2 : txsV (LL.take 0) = [] := rfl
  rw [e1, e2]
  simp (disch := first | assumption | omega | (simp only [List.length_append, List.length_cons, List.length_nil]; omega)) only [go_sem, reduceCtorEq, Nat.reduceEqDiff, Nat.reduceAdd, Nat.reduceSub, Nat.reduceMul, Nat.reduceLeDiff, Int.reduceLT, Int.reduceLE, Int.reduceEq, ↓reduceIte, Int.reduceNeg, Int.reduceAdd, Int.reduceSub, Int.reduceMul, true_imp_iff, forall_const, Nat.mul_one, Int.reduceToNat, Nat.reducePow, Int.reducePow, Bool.true_and, Bool.false_and, Bool.and_false]
 clear hD1
 intro i a1 s2 hjj
 rw [hJ] at hjj
 obtain ⟨⟨hi, hi8⟩, kp, kt, base, hf, hD, hdr, hkp, hkt, hap⟩ := hjj
 have hck : CkT base := hdr.keep hT
 obtain ⟨M, hM⟩ : ∃ M, M = (LL.take i).map fun l => fullP (tB l) := ⟨_, rfl⟩
 have hMl : M.length = i := by rw [hM, List.length_map, List.length_take]; omega
 have hMs : ∀ s ∈ h0 :: M, s.length ≤ 504 := fun s hs => by
  rcases List.mem_cons.1 hs with rfl | hs
  ·exact hh0l
  ·rw [hM] at hs
   obtain ⟨t, _, rfl⟩ := List.mem_map.1 hs
   rw [fullP_len]; decide
 by_cases hlt : i < LL.length ∧ i < 8
 ·have hl1 : (i : Int) < (LL.length : Int) := by omega
  have hl2 : (i : Int) < 8 := by omega
  rw [← hM] at hD
  obtain ⟨l, hl⟩ : ∃ l, LL[i]? = some l := ⟨_, List.getElem?_eq_getElem hlt.1⟩
  have hls := hls i l hl
  have htk : (LL.take (i + 1)).map (fun l => fullP (tB l)) = M ++ [fullP (tB l)] ∧ txsV (LL.take (i + 1)) = txsV (LL.take i) ++ [.str (tB l)] := by
   obtain ⟨hlt', rfl⟩ := List.getElem?_eq_some_iff.1 hl
   unfold txsV
   rw [List.take_succ_eq_append_getElem hlt', List.map_append, List.map_append, hM]
   exact ⟨rfl, rfl⟩
  have hxl : (txsV (LL.take i)).length = i := by unfold txsV; rw [List.length_map, List.length_take]; omega
  have hpl := pgsV_len i
  have hps := pgsV_succ i
  generalize txsV (LL.take i) = TX at *
  generalize pgsV i = PG at *
  have hK := dktake_any hMs (by omega) (by omega) hck (.inl hD)
  rw [hMl] at hK
  have hpi : ((i + 1 : Nat) : Int) = (i : Int) + 1 := by omega
  have hws := wrote_spD (m := 20) (pt := 1 + 2 * (i : Int) + 1) hMs (fullP (tB l))
  rw [hMl] at hws
  have hMs2 := all_app hMs (y := []) (by decide)
  have ho2 : (spD 20 h0 (M ++ [[]]) (1 + 2 * (i : Int) + 1)).ok := spD_ok hMs2 (by rw [List.length_append, hMl]; show ((i + 1 : Nat) : Int) + 1 ≤ 20 ∧ (20 : Int) ≤ 60000; omega) (by omega)
  have hisl2 : (spD 20 h0 (M ++ [[]]) (1 + 2 * (i : Int) + 1)).isF.length = i + 2 := by
   show (List.replicate ((M ++ [[]]).length + 1) false).length = i + 2
   rw [List.length_replicate, List.length_append, hMl]
   rfl
  have hWr := fun (bs τ : ASt) (hck : CkT bs) (hD : DiskAt bs d (spD 20 h0 (M ++ [[]]) (1 + 2 * (i : Int) + 1)) τ) => dkwrite_at hD hck ho2 rfl (by show 1 + 2 * (i : Int) + 1 < 1000000000; omega) (p := i + 1) (by omega) (by rw [hisl2]; omega) (by show (List.replicate ((M ++ [[]]).length + 1) false)[i + 1]? = some false; rw [List.getElem?_replicate, if_pos (by rw [List.length_append, hMl]; exact Nat.lt_succ_self _)]) (s := fullP (tB l)) (fullP_len _)
  rw [hws] at hWr
  have hFu := full_ok (tB l)
  have htl := tB_le l
  have hTB : ∀ k, k = 20 ∨ (l.length ≤ k ∧ k ≤ 20) → wrB (l.take k) = tB l := fun k h => by
   unfold tB
   rcases h with rfl | h
   ·rfl
   ·rw [List.take_of_length_le h.1, List.take_of_length_le (by omega)]
  obtain ⟨pn, hpn⟩ : ∃ pn, pn = i + 1 := ⟨_, rfl⟩
  rw [← hpn] at hK hWr
  generalize htb : tB l = t at *
  generalize fullP t = ft at *
  simp (disch := first | assumption | omega | (simp only [List.length_append, List.length_cons, List.length_nil]; omega)) only [go_sem, reduceCtorEq, Nat.reduceEqDiff, Nat.reduceAdd, Nat.reduceSub, Nat.reduceMul, Nat.reduceLeDiff, Int.reduceLT, Int.reduceLE, Int.reduceEq, ↓reduceIte, Int.reduceNeg, Int.reduceAdd, Int.reduceSub, Int.reduceMul, true_imp_iff, forall_const, Nat.mul_one, Int.reduceToNat, Nat.reducePow, Int.reducePow, Bool.true_and, Bool.false_and, Bool.and_false, hf, hll, hl1, hl2, ←hF]
  refine hK.mono ?_
  rintro v s3 ⟨rfl, hD2⟩
  simp (disch := first | assumption | omega | (simp only [List.length_append, List.length_cons, List.length_nil]; omega)) only [go_sem, reduceCtorEq, Nat.reduceEqDiff, Nat.reduceAdd, Nat.reduceSub, Nat.reduceMul, Nat.reduceLeDiff, Int.reduceLT, Int.reduceLE, Int.reduceEq, ↓reduceIte, Int.reduceNeg, Int.reduceAdd, Int.reduceSub, Int.reduceMul, true_imp_iff, forall_const, Nat.mul_one, Int.reduceToNat, Nat.reducePow, Int.reducePow, Bool.true_and, Bool.false_and, Bool.and_false, ←hF]
  refine allocC_by fun b hb => ?_
  have hTab3 : Tab s3 := hD2.at (hdr.keep hTab)
  obtain ⟨J2, hJ2⟩ : ∃ J : Nat → AFr → ASt → Prop, J = fun k a3 s4 => (k ≤ 20 ∧ k ≤ l.length) ∧ (a3 0 = .sl .shr LS ∧ a3 1 = .sl .shr GA ∧ a3 5 = .ptr d 0 ∧ a3 6 = .sl kp PG ∧ a3 7 = .sl kt TX ∧ a3 8 = .int .i64 i ∧ a3 9 = .int .i64 pn ∧ a3 11 = .ptr b 0 ∧ a3 12 = .int .i64 k) ∧ W s3 b (wrB (l.take k)) s4 := ⟨_, rfl⟩
  simp (disch := first | assumption | omega | (simp only [List.length_append, List.length_cons, List.length_nil]; omega)) only [go_sem, reduceCtorEq, Nat.reduceEqDiff, Nat.reduceAdd, Nat.reduceSub, Nat.reduceMul, Nat.reduceLeDiff, Int.reduceLT, Int.reduceLE, Int.reduceEq, ↓reduceIte, Int.reduceNeg, Int.reduceAdd, Int.reduceSub, Int.reduceMul, true_imp_iff, forall_const, Nat.mul_one, Int.reduceToNat, Nat.reducePow, Int.reducePow, Bool.true_and, Bool.false_and, Bool.and_false, hf, ←hF]
  refine wp_loop_on J2 (fun k => 20 - k) 0 ?_ ?_
  ·rw [hJ2]
   refine ⟨⟨Nat.zero_le _, Nat.zero_le _⟩, ?_, .full, Grown.start _ 1⟩
   simp (disch := first | assumption | omega | (simp only [List.length_append, List.length_cons, List.length_nil]; omega)) only [go_sem, reduceCtorEq, Nat.reduceEqDiff, Nat.reduceAdd, Nat.reduceSub, Nat.reduceMul, Nat.reduceLeDiff, Int.reduceLT, Int.reduceLE, Int.reduceEq, ↓reduceIte, Int.reduceNeg, Int.reduceAdd, Int.reduceSub, Int.reduceMul, true_imp_iff, forall_const, Nat.mul_one, Int.reduceToNat, Nat.reducePow, Int.reducePow, Bool.true_and, Bool.false_and, Bool.and_false, hf]
  intro k a3 s4 hjj
  rw [hJ2] at hjj
  obtain ⟨⟨hk20, hkl⟩, hf3, hW⟩ := hjj
  unfold decsV at hls
  have hlm : ((l.map (AV.int .i64)).length : Int) = (l.length : Int) := by rw [List.length_map]
  have hwl := wrB_le (l.take k)
  have hwk : (l.take k).length ≤ 20 := by rw [List.length_take]; omega
  by_cases hkt2 : k < l.length ∧ k < 20
  ·have hk1 : (k : Int) < (l.length : Int) := by omega
   have hk2 : (k : Int) < 20 := by omega
   obtain ⟨m, hm⟩ : ∃ m, l[k]? = some m := ⟨_, List.getElem?_eq_getElem hkt2.1⟩
   have hmx : (l.map (AV.int .i64))[k]? = some (.int .i64 m) := by rw [List.getElem?_map, hm]; rfl
   have hgd := dgood_ok m
   have hst := wrB_step hm
   generalize l.map (AV.int .i64) = LM at *
   by_cases hg : m.natAbs ≤ 999999999999999999
   ·rw [if_pos hg] at hst
    rw [decide_eq_true hg] at hgd
    have hdt := dtext_ok (σ := s4) (W.keep hb hW hTab3) hg
    have hwt := wtext_ok s3 b (textD m) (wrB (l.take k)) s4 hW (by have := textD_short hg; omega)
    rw [← hst] at hwt
    simp (disch := first | assumption | omega | (simp only [List.length_append, List.length_cons, List.length_nil]; omega)) only [go_sem, reduceCtorEq, Nat.reduceEqDiff, Nat.reduceAdd, Nat.reduceSub, Nat.reduceMul, Nat.reduceLeDiff, Int.reduceLT, Int.reduceLE, Int.reduceEq, ↓reduceIte, Int.reduceNeg, Int.reduceAdd, Int.reduceSub, Int.reduceMul, true_imp_iff, forall_const, Nat.mul_one, Int.reduceToNat, Nat.reducePow, Int.reducePow, Bool.true_and, Bool.false_and, Bool.and_false, hf3, hls, hlm, hk1, hk2, hmx, Int.toNat_natCast, ←hF]
    refine hgd.use ?_
    simp (disch := first | assumption | omega | (simp only [List.length_append, List.length_cons, List.length_nil]; omega)) only [go_sem, reduceCtorEq, Nat.reduceEqDiff, Nat.reduceAdd, Nat.reduceSub, Nat.reduceMul, Nat.reduceLeDiff, Int.reduceLT, Int.reduceLE, Int.reduceEq, ↓reduceIte, Int.reduceNeg, Int.reduceAdd, Int.reduceSub, Int.reduceMul, true_imp_iff, forall_const, Nat.mul_one, Int.reduceToNat, Nat.reducePow, Int.reducePow, Bool.true_and, Bool.false_and, Bool.and_false, hf3, hls, hmx, Int.toNat_natCast, ←hF]
    refine hdt.mono ?_
    rintro v s5 ⟨rfl, rfl⟩
    simp (disch := first | assumption | omega | (simp only [List.length_append, List.length_cons, List.length_nil]; omega)) only [go_sem, reduceCtorEq, Nat.reduceEqDiff, Nat.reduceAdd, Nat.reduceSub, Nat.reduceMul, Nat.reduceLeDiff, Int.reduceLT, Int.reduceLE, Int.reduceEq, ↓reduceIte, Int.reduceNeg, Int.reduceAdd, Int.reduceSub, Int.reduceMul, true_imp_iff, forall_const, Nat.mul_one, Int.reduceToNat, Nat.reducePow, Int.reducePow, Bool.true_and, Bool.false_and, Bool.and_false, hf3, ←hF]
    refine hwt.mono ?_
    rintro v s6 ⟨rfl, hW2⟩
    simp (disch := first | assumption | omega | (simp only [List.length_append, List.length_cons, List.length_nil]; omega)) only [go_sem, reduceCtorEq, Nat.reduceEqDiff, Nat.reduceAdd, Nat.reduceSub, Nat.reduceMul, Nat.reduceLeDiff, Int.reduceLT, Int.reduceLE, Int.reduceEq, ↓reduceIte, Int.reduceNeg, Int.reduceAdd, Int.reduceSub, Int.reduceMul, true_imp_iff, forall_const, Nat.mul_one, Int.reduceToNat, Nat.reducePow, Int.reducePow, Bool.true_and, Bool.false_and, Bool.and_false, hf3, ←hF]
    refine ⟨k + 1, by omega, ?_⟩
    rw [hJ2]
    refine ⟨⟨by omega, by omega⟩, ?_, hW2⟩
    simp (disch := first | assumption | omega | (simp only [List.length_append, List.length_cons, List.length_nil]; omega)) only [go_sem, reduceCtorEq, Nat.reduceEqDiff, Nat.reduceAdd, Nat.reduceSub, Nat.reduceMul, Nat.reduceLeDiff, Int.reduceLT, Int.reduceLE, Int.reduceEq, ↓reduceIte, Int.reduceNeg, Int.reduceAdd, Int.reduceSub, Int.reduceMul, true_imp_iff, forall_const, Nat.mul_one, Int.reduceToNat, Nat.reducePow, Int.reducePow, Bool.true_and, Bool.false_and, Bool.and_false, hf3]
   ·rw [if_neg hg, List.append_nil] at hst
    rw [decide_eq_false hg] at hgd
    simp (disch := first | assumption | omega | (simp only [List.length_append, List.length_cons, List.length_nil]; omega)) only [go_sem, reduceCtorEq, Nat.reduceEqDiff, Nat.reduceAdd, Nat.reduceSub, Nat.reduceMul, Nat.reduceLeDiff, Int.reduceLT, Int.reduceLE, Int.reduceEq, ↓reduceIte, Int.reduceNeg, Int.reduceAdd, Int.reduceSub, Int.reduceMul, true_imp_iff, forall_const, Nat.mul_one, Int.reduceToNat, Nat.reducePow, Int.reducePow, Bool.true_and, Bool.false_and, Bool.and_false, hf3, hls, hlm, hk1, hk2, hmx, Int.toNat_natCast, ←hF]
    refine hgd.use ?_
    simp (disch := first | assumption | omega | (simp only [List.length_append, List.length_cons, List.length_nil]; omega)) only [go_sem, reduceCtorEq, Nat.reduceEqDiff, Nat.reduceAdd, Nat.reduceSub, Nat.reduceMul, Nat.reduceLeDiff, Int.reduceLT, Int.reduceLE, Int.reduceEq, ↓reduceIte, Int.reduceNeg, Int.reduceAdd, Int.reduceSub, Int.reduceMul, true_imp_iff, forall_const, Nat.mul_one, Int.reduceToNat, Nat.reducePow, Int.reducePow, Bool.true_and, Bool.false_and, Bool.and_false, hf3, ←hF]
    refine ⟨k + 1, by omega, ?_⟩
    rw [hJ2]
    refine ⟨⟨by omega, by omega⟩, ?_, by rw [hst]; exact hW⟩
    simp (disch := first | assumption | omega | (simp only [List.length_append, List.length_cons, List.length_nil]; omega)) only [go_sem, reduceCtorEq, Nat.reduceEqDiff, Nat.reduceAdd, Nat.reduceSub, Nat.reduceMul, Nat.reduceLeDiff, Int.reduceLT, Int.reduceLE, Int.reduceEq, ↓reduceIte, Int.reduceNeg, Int.reduceAdd, Int.reduceSub, Int.reduceMul, true_imp_iff, forall_const, Nat.mul_one, Int.reduceToNat, Nat.reducePow, Int.reducePow, Bool.true_and, Bool.false_and, Bool.and_false, hf3]
  ·rw [hTB k (by omega)] at hW
   obtain ⟨baseW, kw, hDW, hbW, hdW⟩ := hD2.writer hb hW
   have hckW : CkT baseW := hdW.keep hck
   have hkpb : ∀ c T, kp = .tok c 1 T → b ≠ c := by
    rintro c T rfl rfl
    rcases hkp with ⟨h, _⟩ | ⟨c2, T2, h, _, h3⟩
    ·cases h
    ·injection h with h4 _ _
     rw [← h4] at h3
     rw [hD2.at h3] at hb
     cases hb
   have hktb : ∀ c T, kt = .tok c 1 T → b ≠ c := by
    rintro c T rfl rfl
    rcases hkt with ⟨h, _⟩ | ⟨c2, T2, h, _, h3⟩
    ·cases h
    ·injection h with h4 _ _
     rw [← h4] at h3
     rw [hD2.at h3] at hb
     cases hb
   have hkpW : TokAt σ' baseW kp i := hkp.keep fun _ _ _ r hx => hdW.keep hx
   have hktW : TokAt σ' baseW kt i := hkt.keep fun _ _ _ r hx => hdW.keep hx
   have hdrW : Drop baseW σ' := hdW.trans hdr
   have hwb := fun (τ : ASt) (h : τ b = some (.obj [.sl kw (bytesAV t)])) => wbytes_cell h
   have hsb : s4 b = some (.obj [.sl kw (bytesAV t)]) := hDW.at hbW
   have htl' : ¬ (504 : Int) < (t.length : Int) := by omega
   obtain ⟨H, hH⟩ : ∃ H, H = ACode.wp Tryd.prog c4_45 := ⟨_, rfl⟩
   have hgo : ∀ a4 : AFr, (a4 0 = .sl .shr LS ∧ a4 1 = .sl .shr GA ∧ a4 5 = .ptr d 0 ∧ a4 6 = .sl kp PG ∧ a4 7 = .sl kt TX ∧ a4 8 = .int .i64 i ∧ a4 9 = .int .i64 pn ∧ a4 11 = .ptr b 0) → ∀ Q : APost, (∀ a5 s5, J (i + 1) a5 s5 → Q .normal a5 s5) → H (BlockQ 1 (SeqQ (ACode.wp Tryd.prog c4_51) Q)) a4 s4 := by
    intro a4 hf4 Q hQ
    rw [hH]
    simp (disch := first | assumption | omega | (simp only [List.length_append, List.length_cons, List.length_nil]; omega)) only [go_sem, reduceCtorEq, Nat.reduceEqDiff, Nat.reduceAdd, Nat.reduceSub, Nat.reduceMul, Nat.reduceLeDiff, Int.reduceLT, Int.reduceLE, Int.reduceEq, ↓reduceIte, Int.reduceNeg, Int.reduceAdd, Int.reduceSub, Int.reduceMul, true_imp_iff, forall_const, Nat.mul_one, Int.reduceToNat, Nat.reducePow, Int.reducePow, Bool.true_and, Bool.false_and, Bool.and_false, hf4]
    refine (hwb _ hsb).mono ?_
    rintro v s5 ⟨rfl, rfl⟩
    simp (disch := first | assumption | omega | (simp only [List.length_append, List.length_cons, List.length_nil]; omega)) only [go_sem, reduceCtorEq, Nat.reduceEqDiff, Nat.reduceAdd, Nat.reduceSub, Nat.reduceMul, Nat.reduceLeDiff, Int.reduceLT, Int.reduceLE, Int.reduceEq, ↓reduceIte, Int.reduceNeg, Int.reduceAdd, Int.reduceSub, Int.reduceMul, true_imp_iff, forall_const, Nat.mul_one, Int.reduceToNat, Nat.reducePow, Int.reducePow, Bool.true_and, Bool.false_and, Bool.and_false]
    refine hFu.use ?_
    simp (disch := first | assumption | omega | (simp only [List.length_append, List.length_cons, List.length_nil]; omega)) only [go_sem, reduceCtorEq, Nat.reduceEqDiff, Nat.reduceAdd, Nat.reduceSub, Nat.reduceMul, Nat.reduceLeDiff, Int.reduceLT, Int.reduceLE, Int.reduceEq, ↓reduceIte, Int.reduceNeg, Int.reduceAdd, Int.reduceSub, Int.reduceMul, true_imp_iff, forall_const, Nat.mul_one, Int.reduceToNat, Nat.reducePow, Int.reducePow, Bool.true_and, Bool.false_and, Bool.and_false, hf4]
    refine (hwb _ hsb).mono ?_
    rintro v s6 ⟨rfl, rfl⟩
    simp (disch := first | assumption | omega | (simp only [List.length_append, List.length_cons, List.length_nil]; omega)) only [go_sem, reduceCtorEq, Nat.reduceEqDiff, Nat.reduceAdd, Nat.reduceSub, Nat.reduceMul, Nat.reduceLeDiff, Int.reduceLT, Int.reduceLE, Int.reduceEq, ↓reduceIte, Int.reduceNeg, Int.reduceAdd, Int.reduceSub, Int.reduceMul, true_imp_iff, forall_const, Nat.mul_one, Int.reduceToNat, Nat.reducePow, Int.reducePow, Bool.true_and, Bool.false_and, Bool.and_false, hf4, htl']
    refine (hWr _ _ hckW hDW).mono ?_
    rintro v s7 ⟨rfl, hD3⟩
    simp (disch := first | assumption | omega | (simp only [List.length_append, List.length_cons, List.length_nil]; omega)) only [go_sem, reduceCtorEq, Nat.reduceEqDiff, Nat.reduceAdd, Nat.reduceSub, Nat.reduceMul, Nat.reduceLeDiff, Int.reduceLT, Int.reduceLE, Int.reduceEq, ↓reduceIte, Int.reduceNeg, Int.reduceAdd, Int.reduceSub, Int.reduceMul, true_imp_iff, forall_const, Nat.mul_one, Int.reduceToNat, Nat.reducePow, Int.reducePow, Bool.true_and, Bool.false_and, Bool.and_false, hf4]
    refine hD3.app hdrW hkpW hpl rfl rfl (by omega) (by omega) fun kp' baseP s8 hDP hdrP hkpP hkeepP hnewP => ?_
    have hbP : baseP b = some (.obj [.sl kw (bytesAV t)]) := hkeepP b _ hbW hkpb
    have hktP : TokAt σ' baseP kt i := hktW.keep fun c U hc r hx => hkeepP c r hx fun b2 T2 h2 => Ne.symm (hap b2 T2 c U h2 hc)
    have hapP : Apart kp' kt := fun c T c2 T2 h1 h2 => by
     rcases hnewP c T h1 with ⟨T', h3⟩ | h3
     ·exact hap c T' c2 T2 h3 h2
     ·rintro rfl
      rcases hktW with ⟨h, _⟩ | ⟨c3, T3, h, _, h4⟩
      ·rw [h] at h2; cases h2
      ·rw [h2] at h
       injection h with h5 _ _
       rw [← h5, h3] at h4
       cases h4
    have hs8 : s8 b = some (.obj [.sl kw (bytesAV t)]) := hDP.at hbP
    simp (disch := first | assumption | omega | (simp only [List.length_append, List.length_cons, List.length_nil]; omega)) only [go_sem, reduceCtorEq, Nat.reduceEqDiff, Nat.reduceAdd, Nat.reduceSub, Nat.reduceMul, Nat.reduceLeDiff, Int.reduceLT, Int.reduceLE, Int.reduceEq, ↓reduceIte, Int.reduceNeg, Int.reduceAdd, Int.reduceSub, Int.reduceMul, true_imp_iff, forall_const, Nat.mul_one, Int.reduceToNat, Nat.reducePow, Int.reducePow, Bool.true_and, Bool.false_and, Bool.and_false, hf4]
    refine (hwb _ hs8).mono ?_
    rintro v s9 ⟨rfl, rfl⟩
    simp (disch := first | assumption | omega | (simp only [List.length_append, List.length_cons, List.length_nil]; omega)) only [go_sem, reduceCtorEq, Nat.reduceEqDiff, Nat.reduceAdd, Nat.reduceSub, Nat.reduceMul, Nat.reduceLeDiff, Int.reduceLT, Int.reduceLE, Int.reduceEq, ↓reduceIte, Int.reduceNeg, Int.reduceAdd, Int.reduceSub, Int.reduceMul, true_imp_iff, forall_const, Nat.mul_one, Int.reduceToNat, Nat.reducePow, Int.reducePow, Bool.true_and, Bool.false_and, Bool.and_false, hf4]
    refine hDP.app hdrP hktP hxl rfl rfl (by omega) (by omega) fun kt' baseQ s10 hDQ hdrQ hktQ hkeepQ hnewQ => ?_
    have hkpQ : TokAt σ' baseQ kp' (i + 1) := hkpP.keep fun c U hc r hx => hkeepQ c r hx fun b2 T2 h2 => hapP c U b2 T2 hc h2
    have hapQ : Apart kp' kt' := fun c T c2 T2 h1 h2 => by
     rcases hnewQ c2 T2 h2 with ⟨T', h3⟩ | h3
     ·exact hapP c T c2 T' h1 h3
     ·rintro rfl
      rcases hkpP with ⟨h, _⟩ | ⟨c3, T3, h, _, h4⟩
      ·rw [h] at h1; cases h1
      ·rw [h1] at h
       injection h with h5 _ _
       rw [← h5, h3] at h4
       cases h4
    simp (disch := first | assumption | omega | (simp only [List.length_append, List.length_cons, List.length_nil]; omega)) only [go_sem, reduceCtorEq, Nat.reduceEqDiff, Nat.reduceAdd, Nat.reduceSub, Nat.reduceMul, Nat.reduceLeDiff, Int.reduceLT, Int.reduceLE, Int.reduceEq, ↓reduceIte, Int.reduceNeg, Int.reduceAdd, Int.reduceSub, Int.reduceMul, true_imp_iff, forall_const, Nat.mul_one, Int.reduceToNat, Nat.reducePow, Int.reducePow, Bool.true_and, Bool.false_and, Bool.and_false, hf4]
    refine hQ _ _ ?_
    rw [hJ]
    refine ⟨by omega, kp', kt', baseQ, ?_, ?_, hdrQ, hkpQ, hktQ, hapQ⟩
    ·rw [hps, htk.2]
     simp (disch := first | assumption | omega | (simp only [List.length_append, List.length_cons, List.length_nil]; omega)) only [go_sem, reduceCtorEq, Nat.reduceEqDiff, Nat.reduceAdd, Nat.reduceSub, Nat.reduceMul, Nat.reduceLeDiff, Int.reduceLT, Int.reduceLE, Int.reduceEq, ↓reduceIte, Int.reduceNeg, Int.reduceAdd, Int.reduceSub, Int.reduceMul, true_imp_iff, forall_const, Nat.mul_one, Int.reduceToNat, Nat.reducePow, Int.reducePow, Bool.true_and, Bool.false_and, Bool.and_false, hf4]
     rw [hpn]
     rfl
    ·rw [htk.1]
     have e : 1 + 2 * (i : Int) + 1 + 1 = 1 + 2 * ((i + 1 : Nat) : Int) := by omega
     rw [← e]
     exact hDQ
   by_cases h1 : k < l.length
   ·have hk1 : (k : Int) < (l.length : Int) := by omega
    have hk2 : ¬ (k : Int) < 20 := by omega
    simp (disch := first | assumption | omega | (simp only [List.length_append, List.length_cons, List.length_nil]; omega)) only [go_sem, reduceCtorEq, Nat.reduceEqDiff, Nat.reduceAdd, Nat.reduceSub, Nat.reduceMul, Nat.reduceLeDiff, Int.reduceLT, Int.reduceLE, Int.reduceEq, ↓reduceIte, Int.reduceNeg, Int.reduceAdd, Int.reduceSub, Int.reduceMul, true_imp_iff, forall_const, Nat.mul_one, Int.reduceToNat, Nat.reducePow, Int.reducePow, Bool.true_and, Bool.false_and, Bool.and_false, hf3, hls, hlm, hk1, hk2, Int.toNat_natCast, ←hF, ←hH]
    refine hgo _ ?_ _ fun a5 s5 h => ⟨i + 1, by omega, h⟩
    simp (disch := first | assumption | omega | (simp only [List.length_append, List.length_cons, List.length_nil]; omega)) only [go_sem, reduceCtorEq, Nat.reduceEqDiff, Nat.reduceAdd, Nat.reduceSub, Nat.reduceMul, Nat.reduceLeDiff, Int.reduceLT, Int.reduceLE, Int.reduceEq, ↓reduceIte, Int.reduceNeg, Int.reduceAdd, Int.reduceSub, Int.reduceMul, true_imp_iff, forall_const, Nat.mul_one, Int.reduceToNat, Nat.reducePow, Int.reducePow, Bool.true_and, Bool.false_and, Bool.and_false, hf3]
   ·have hk1 : ¬ (k : Int) < (l.length : Int) := by omega
    simp (disch := first | assumption | omega | (simp only [List.length_append, List.length_cons, List.length_nil]; omega)) only [go_sem, reduceCtorEq, Nat.reduceEqDiff, Nat.reduceAdd, Nat.reduceSub, Nat.reduceMul, Nat.reduceLeDiff, Int.reduceLT, Int.reduceLE, Int.reduceEq, ↓reduceIte, Int.reduceNeg, Int.reduceAdd, Int.reduceSub, Int.reduceMul, true_imp_iff, forall_const, Nat.mul_one, Int.reduceToNat, Nat.reducePow, Int.reducePow, Bool.true_and, Bool.false_and, Bool.and_false, hf3, hls, hlm, hk1, Int.toNat_natCast, ←hF, ←hH]
    refine hgo _ ?_ _ fun a5 s5 h => ⟨i + 1, by omega, h⟩
    simp (disch := first | assumption | omega | (simp only [List.length_append, List.length_cons, List.length_nil]; omega)) only [go_sem, reduceCtorEq, Nat.reduceEqDiff, Nat.reduceAdd, Nat.reduceSub, Nat.reduceMul, Nat.reduceLeDiff, Int.reduceLT, Int.reduceLE, Int.reduceEq, ↓reduceIte, Int.reduceNeg, Int.reduceAdd, Int.reduceSub, Int.reduceMul, true_imp_iff, forall_const, Nat.mul_one, Int.reduceToNat, Nat.reducePow, Int.reducePow, Bool.true_and, Bool.false_and, Bool.and_false, hf3]
 ·rw [hM] at hMl
  have hgo : ∀ a3 : AFr, (a3 0 = .sl .shr LS ∧ a3 1 = .sl .shr GA ∧ a3 5 = .ptr d 0 ∧ a3 6 = .sl kp (pgsV i) ∧ a3 7 = .sl kt (txsV (LL.take i))) → F (RetQ [.t 4] fun v σ'_1 => v = .bool true ∧ σ'_1 = σ') a3 s2 := fun a3 hf3 => h2 base s2 d i kp kt (1 + 2 * (i : Int)) hi hi8 (by omega) hD hck hdr a3 hf3
  by_cases h1 : i < LL.length
  ·have hl1 : (i : Int) < (LL.length : Int) := by omega
   have hl2 : ¬ (i : Int) < 8 := by omega
   simp (disch := first | assumption | omega | (simp only [List.length_append, List.length_cons, List.length_nil]; omega)) only [go_sem, reduceCtorEq, Nat.reduceEqDiff, Nat.reduceAdd, Nat.reduceSub, Nat.reduceMul, Nat.reduceLeDiff, Int.reduceLT, Int.reduceLE, Int.reduceEq, ↓reduceIte, Int.reduceNeg, Int.reduceAdd, Int.reduceSub, Int.reduceMul, true_imp_iff, forall_const, Nat.mul_one, Int.reduceToNat, Nat.reducePow, Int.reducePow, Bool.true_and, Bool.false_and, Bool.and_false, hf, hll, hl1, hl2, ←hF]
   refine hgo _ ?_
   simp (disch := first | assumption | omega | (simp only [List.length_append, List.length_cons, List.length_nil]; omega)) only [go_sem, reduceCtorEq, Nat.reduceEqDiff, Nat.reduceAdd, Nat.reduceSub, Nat.reduceMul, Nat.reduceLeDiff, Int.reduceLT, Int.reduceLE, Int.reduceEq, ↓reduceIte, Int.reduceNeg, Int.reduceAdd, Int.reduceSub, Int.reduceMul, true_imp_iff, forall_const, Nat.mul_one, Int.reduceToNat, Nat.reducePow, Int.reducePow, Bool.true_and, Bool.false_and, Bool.and_false, hf]
  ·have hl1 : ¬ (i : Int) < (LL.length : Int) := by omega
   simp (disch := first | assumption | omega | (simp only [List.length_append, List.length_cons, List.length_nil]; omega)) only [go_sem, reduceCtorEq, Nat.reduceEqDiff, Nat.reduceAdd, Nat.reduceSub, Nat.reduceMul, Nat.reduceLeDiff, Int.reduceLT, Int.reduceLE, Int.reduceEq, ↓reduceIte, Int.reduceNeg, Int.reduceAdd, Int.reduceSub, Int.reduceMul, true_imp_iff, forall_const, Nat.mul_one, Int.reduceToNat, Nat.reducePow, Int.reducePow, Bool.true_and, Bool.false_and, Bool.and_false, hf, hll, hl1, ←hF]
   refine hgo _ ?_
   simp (disch := first | assumption | omega | (simp only [List.length_append, List.length_cons, List.length_nil]; omega)) only [go_sem, reduceCtorEq, Nat.reduceEqDiff, Nat.reduceAdd, Nat.reduceSub, Nat.reduceMul, Nat.reduceLeDiff, Int.reduceLT, Int.reduceLE, Int.reduceEq, ↓reduceIte, Int.reduceNeg, Int.reduceAdd, Int.reduceSub, Int.reduceMul, true_imp_iff, forall_const, Nat.mul_one, Int.reduceToNat, Nat.reducePow, Int.reducePow, Bool.true_and, Bool.false_and, Bool.and_false, hf]
end Go.A
namespace Go.A
open Go.Proofs Go.Lib
inductive Step where
 | bad (k : Nat)
 | blank
 | tok (kind : Int) (text : List UInt8) (n : Nat)
 deriving DecidableEq
structure Tok where
 kind : Int
 text : List UInt8
 at' : Nat
 col : Nat
 deriving DecidableEq
end Go.A
namespace Go.Proofs.YtkbomeigndfbhaaDoor
open Go Go.ChangeShapes Go.WideShapes Go.ChangeAt Go.RowKit Go.A Go.Lib Go.Shelf
theorem row_own : ownKnob Tryd.prog.godebug = none := by kernel_rfl
theorem row_laid : laidOutB Tryd.prog = true := by kernel_rfl
theorem ints_reps {σ : ASt} {w : World} {k : IntKind} : ∀ zs : List Int, Reps σ w (zs.map (AV.int k)) (zs.map (Value.int k))
 | [] => .nil
 | z :: zs => .cons (.int k z) (ints_reps zs)
def stOf : List (Nat × List AV) → ASt
 | [], _ => none
 | p :: ps, b => if b = p.1 then some (.fix p.2) else stOf ps b
theorem stOf_fix : ∀ {ps : List (Nat × List AV)} {b : Nat} {r : Role}, stOf ps b = some r → ∃ l, r = .fix l
 | [], _, _, h => by cases h
 | p :: ps, b, r, h => by
   simp only [stOf] at h
   split at h
   ·injection h with h; exact ⟨_, h.symm⟩
   ·exact stOf_fix h
theorem stOf_mem : ∀ {ps : List (Nat × List AV)} {b : Nat} {r : Role}, stOf ps b = some r → ∃ l, (b, l) ∈ ps ∧ r = .fix l
 | [], _, _, h => by cases h
 | p :: ps, b, r, h => by
   simp only [stOf] at h
   split at h
   ·rename_i hb
    injection h with h
    subst hb
    exact ⟨p.2, List.mem_cons_self, h.symm⟩
   ·obtain ⟨l, hl, he⟩ := stOf_mem h
    exact ⟨l, List.mem_cons_of_mem _ hl, he⟩
theorem still_fix {σ : ASt} (hfx : ∀ b r, σ b = some r → ∃ l, r = .fix l) {w : World} {b o : Nat} (h : b < w.heap.size) : Still σ w b o := by
 refine ⟨h, ?_⟩
 cases hb : σ b with
 | none => exact .inl rfl
 | some r => obtain ⟨l, rfl⟩ := hfx b r hb; exact .inr (.inl ⟨_, rfl⟩)
end Go.Proofs.YtkbomeigndfbhaaDoor
namespace Go.A
section
variable {σ : ASt} {w : World}
theorem Still.fixed (hfx : ∀ b r, σ b = some r → ∃ l, r = .fix l) {b o : Nat} (h : Still noRole w b o) : Still σ w b o := by
 refine ⟨h.1, ?_⟩
 cases hb : σ b with
 | none => exact .inl rfl
 | some r => obtain ⟨l, rfl⟩ := hfx b r hb; exact .inr (.inl ⟨_, rfl⟩)
theorem Stands.fixed (hfx : ∀ b r, σ b = some r → ∃ l, r = .fix l) (b : Nat) : Stands σ b := by
 refine ⟨fun cs h => ?_, fun l p h => ?_, fun T cs h => ?_⟩ <;> (obtain ⟨l, hl⟩ := hfx b _ h; cases hl)
theorem SK.ok_fixed (hfx : ∀ b r, σ b = some r → ∃ l, r = .fix l) {k : SK} {b o n c sz : Nat} (h : k.ok noRole w b o n c sz) : k.ok σ w b o n c sz := by
 cases k with
 | shr => trivial
 | full => exact h
 | tok t s T => exact ⟨h.1, h.2.1, h.2.2.1, h.2.2.2.1, Stands.fixed hfx b⟩
mutual
theorem Rep.fixed (hfx : ∀ b r, σ b = some r → ∃ l, r = .fix l) : ∀ {a : AV} {v : Value}, Rep noRole w a v → Rep σ w a v
 | _, _, .any v => .any v
 | _, _, .bool b => .bool b
 | _, _, .int k n => .int k n
 | _, _, .str l => .str l
 | _, _, .ptr b o => .ptr b o
 | _, _, .imm h1 => .imm (h1.fixed hfx)
 | _, _, .nilp => .nilp
 | _, _, .slE A c => .slE A c
 | _, _, .slN => .slN
 | _, _, .sl h1 h2 h3 h4 h5 => .sl (h1.fixed hfx) h2 h3 (SK.ok_fixed hfx h4) h5
 | _, _, .msl b o n c => .msl b o n c
 | _, _, .agg h1 => .agg (h1.fixed hfx)
 | _, _, .tuple h1 => .tuple (h1.fixed hfx)
 | _, _, .iface h1 => .iface (h1.fixed hfx)
 | _, _, .nili => .nili
 | _, _, .func h1 h2 => .func (h1.fixed hfx) (h2.fixed hfx)
 | _, _, .nilf => .nilf
theorem Reps.fixed (hfx : ∀ b r, σ b = some r → ∃ l, r = .fix l) : ∀ {avs : List AV} {vs : List Value}, Reps noRole w avs vs → Reps σ w avs vs
 | _, _, .nil => .nil
 | _, _, .cons h1 h2 => .cons (h1.fixed hfx) (h2.fixed hfx)
theorem At.fixed (hfx : ∀ b r, σ b = some r → ∃ l, r = .fix l) : ∀ {b o : Nat} {avs : List AV}, At noRole w b o avs → At σ w b o avs
 | _, _, _, .nil b o => .nil b o
 | _, _, _, .cons h1 h2 h3 h4 => .cons (h1.fixed hfx) h2 (h3.fixed hfx) (h4.fixed hfx)
theorem Row.fixed (hfx : ∀ b r, σ b = some r → ∃ l, r = .fix l) : ∀ {b o sz : Nat} {avs : List AV}, Row noRole w b o sz avs → Row σ w b o sz avs
 | _, _, _, _, .nil b o sz => .nil b o sz
 | _, _, _, _, .cons h1 h2 h3 => .cons h1 (h2.fixed hfx) (h3.fixed hfx)
end
end
end Go.A
namespace Go.Proofs.YtkbomeigndfbhaaDoor
open Go Go.ChangeShapes Go.WideShapes Go.ChangeAt Go.RowKit Go.A Go.Lib Go.Shelf
theorem pow_role {σ : ASt} {W : World} (hfx : ∀ b r, σ b = some r → ∃ l, r = .fix l) (h3 : VarReads Tryd.prog W "internal/strconv.uint64pow10" (Lib.tabData .u64 Lib.pow10Tab)) :
  RoleOk σ W 0 (.fix (Lib.pow10Tab.map (AV.int .u64))) := by
 obtain ⟨g', t', cs, fuel, p, hg', ht', hvar, hd⟩ := h3
 obtain rfl := Option.some.inj ((show Tryd.prog.globalNamed "internal/strconv.uint64pow10" = some 0 by kernel_rfl).symm.trans hg')
 obtain rfl := Option.some.inj ((show (Tryd.prog.globals[0]?).map (·.type) = some 111 by kernel_rfl).symm.trans ht')
 have hcs := cells_of_tab (n := 20) (e := 72) (k := .u64) (by kernel_rfl) (by kernel_rfl) (by kernel_rfl) (by kernel_rfl) hd
 unfold World.var? at hvar
 rw [show Tryd.prog.globalNamed "internal/strconv.uint64pow10" = some 0 by kernel_rfl, Option.bind_some] at hvar
 split at hvar
 ·rename_i cs' T fr hheap
  injection hvar with hvar
  have hlt : 0 < W.heap.size := (Array.getElem?_eq_some_iff.1 hheap).1
  have he : cs' = (Lib.pow10Tab.map fun z => Value.int .u64 z).toArray := by rw [hvar]; exact Array.ext' (by simpa using hcs)
  refine ⟨At.mk' (ints_reps _) (fun j _ => still_fix hfx hlt) (fun j v hj => ?_), cs', T, fr, hheap, by rw [he]; simp⟩
  simp only [World.cell?, hheap, Nat.zero_add, he]
  simpa using hj
 ·cases hvar
theorem calls_st {ps : List (Nat × List AV)} {f : FuncId} {args : List AV} {vs : List Value} {w : World} (h : ACalls Tryd.prog f args (stOf ps) fun r σ' => r = .bool true ∧ σ' = stOf ps) (hs : Sim (stOf ps) w) (hr : Reps (stOf ps) w args vs) :
  Calls Tryd.prog f ⟨vs⟩ w fun e w' => e = .returned (.bool true) ∧ Ext w w' :=
 (h w vs hs hr).mono fun e w' ⟨u, r, σ', he, ⟨hrt, hst⟩, hle, _, hrep⟩ => by
  subst hrt hst
  cases hrep
  refine ⟨he, Ext.of_below ⟨hle.os, hle.tape, hle.output, hle.size, fun k hk => ?_⟩⟩
  cases hn : stOf ps k with
  | none => exact (hle.keep k hk hn).2
  | some r =>
    obtain ⟨l, rfl⟩ := stOf_fix hn
    exact (hle.fix k _ hk hn).2
end Go.Proofs.YtkbomeigndfbhaaDoor
namespace Go.Proofs.YtkbomeigndfbhaaDoor
open Go Go.ChangeShapes Go.WideShapes Go.ChangeAt Go.RowKit Go.A Go.Lib Go.Shelf
def ckZ : List Int := ckT.map fun (n : Nat) => (n : Int)
theorem ckZ_av : ckZ.map (AV.int .u32) = ckAV := by unfold ckZ ckAV; rw [List.map_map]; rfl
theorem ck_eq : (Rows.laid_tabular_check_table : DataW Unit) = Lib.tabData .u32 ckZ := by kernel_rfl
theorem ck_role {σ : ASt} {W : World} (hfx : ∀ b r, σ b = some r → ∃ l, r = .fix l) (h3 : VarReads Tryd.prog W "tabular/check.table" (Lib.tabData .u32 ckZ)) :
  RoleOk σ W 2 (.fix ckAV) := by
 rw [← ckZ_av]
 obtain ⟨g', t', cs, fuel, p, hg', ht', hvar, hd⟩ := h3
 obtain rfl := Option.some.inj ((show Tryd.prog.globalNamed "tabular/check.table" = some 2 by kernel_rfl).symm.trans hg')
 obtain rfl := Option.some.inj ((show (Tryd.prog.globals[2]?).map (·.type) = some 116 by kernel_rfl).symm.trans ht')
 have hcs := cells_of_tab (n := 16) (e := 23) (k := .u32) (by kernel_rfl) (by kernel_rfl) (by kernel_rfl) (by kernel_rfl) hd
 unfold World.var? at hvar
 rw [show Tryd.prog.globalNamed "tabular/check.table" = some 2 by kernel_rfl, Option.bind_some] at hvar
 split at hvar
 ·rename_i cs' T fr hheap
  injection hvar with hvar
  have hlt : 2 < W.heap.size := (Array.getElem?_eq_some_iff.1 hheap).1
  have he : cs' = (ckZ.map fun z => Value.int .u32 z).toArray := by rw [hvar]; exact Array.ext' (by simpa using hcs)
  refine ⟨At.mk' (ints_reps _) (fun j _ => still_fix hfx hlt) (fun j v hj => ?_), cs', T, fr, hheap, by rw [he]; simp⟩
  simp only [World.cell?, hheap, Nat.zero_add, he]
  simpa using hj
 ·cases hvar
end Go.Proofs.YtkbomeigndfbhaaDoor
namespace Go.Proofs.YtkbomeigndfbhaaDoor
open Go Go.ChangeShapes Go.WideShapes Go.ChangeAt Go.RowKit Go.A Go.Lib Go.Shelf
def laidP : List (String × DataW Unit) := [("math/bits.deBruijn32tab", Rows.laid_math_bits_deBruijn32tab), ("math/bits.deBruijn64tab", Rows.laid_math_bits_deBruijn64tab), ("internal/strconv.uint64pow10", Rows.laid_internal_strconv_uint64pow10), ("tabular/check.table", Rows.laid_tabular_check_table), ("unicode/utf8.acceptRanges", Rows.laid_unicode_utf8_acceptRanges), ("unicode/utf8.first", Rows.laid_unicode_utf8_first)]
def pPs : List (Nat × List AV) := [(0, Lib.pow10Tab.map (AV.int .u64)), (2, ckAV)]
def pSt : ASt := stOf pPs
theorem pSt_ck : CkT pSt := by simp [CkT, pSt, pPs, stOf]
theorem pSt_tab : Tab pSt := by simp [Tab, pSt, pPs, stOf]
theorem p_sim {W : World} (h : laidMetH Tryd.prog laidP W) : Sim pSt W := by
 rw [MakeChecks.laidMetH_plain _ _ _ (by kernel_rfl)] at h
 have hp : VarReads Tryd.prog W "internal/strconv.uint64pow10" (Lib.tabData .u64 Lib.pow10Tab) := Lib.laidMet.reads h (.tail _ (.tail _ (.head _)))
 have hc : VarReads Tryd.prog W "tabular/check.table" (Lib.tabData .u32 ckZ) := ck_eq ▸ Lib.laidMet.reads h (.tail _ (.tail _ (.tail _ (.head _))))
 intro b r hb
 obtain ⟨l, hl, rfl⟩ := stOf_mem hb
 simp only [pPs, List.mem_cons, List.not_mem_nil, or_false, Prod.mk.injEq] at hl
 rcases hl with ⟨rfl, rfl⟩ | ⟨rfl, rfl⟩
 ·exact pow_role (fun _ _ => stOf_fix) hp
 ·exact ck_role (fun _ _ => stOf_fix) hc
theorem calls_p {f : FuncId} {args : List AV} {vs : List Value} {w : World} (h : ACalls Tryd.prog f args pSt fun r σ' => r = .bool true ∧ σ' = pSt) (hs : Sim pSt w) (hr : Reps pSt w args vs) :
  Calls Tryd.prog f ⟨vs⟩ w fun e w' => e = .returned (.bool true) ∧ Ext w w' := calls_st h hs hr
end Go.Proofs.YtkbomeigndfbhaaDoor
