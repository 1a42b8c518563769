/- VintCut, walked. -/
import Derived.Test.YthkcifdjfoggeaaVn
namespace Go.A
open Go.Proofs Go.Vint
set_option maxRecDepth 100000
set_option linter.unusedSimpArgs false
set_option linter.unusedVariables false

theorem textP_cut {x : List UInt8} {j : Nat} (hx : x.length ≤ 200) (hj : j < (textB x).length) : (textP ((textB x).take j) 0 0 200).2.2 = 2 := by
  have hd : ((textB x).take j).drop 0 = (textB x).take j := rfl
  unfold textB at hj hd ⊢
  by_cases hju : j < (uintB x.length).length
  · rw [List.take_append_of_le_length (by omega)] at hd ⊢
    have hr := readU_cut hd hju (by omega)
    unfold textP
    rw [hr]
    dsimp only
    rw [if_pos (by simp)]
  · rw [List.take_append, List.take_of_length_le (by omega)] at hd ⊢
    have hr := readU_uint hd (by omega)
    rw [List.length_append] at hj
    unfold textP
    rw [hr]
    dsimp only
    rw [if_neg (by simp), if_neg (by omega), if_pos (by simp only [List.length_append, List.length_take]; omega)]
theorem done2 {p n : Nat} : (if p < n then firstErr 2 3 else 2) = (2 : Int) := by
  unfold firstErr
  split <;> rfl
theorem rdone2 (s : List UInt8) (p : Nat) (b : Nat) (σ : ASt) (hb : σ b = rd s p 2) : ACalls Try.prog 29 [.ptr b 0] σ fun v σ' => v = .int .i64 2 ∧ σ' = σ.set b (rd s p 2) := by
  have := rdone_ok s p 2 b σ hb
  rw [done2] at this
  exact this

set_option maxHeartbeats 1000000 in
theorem VintCut_any (t : Thing) (cut : Int) (ht : t.ok) (σ : ASt) : ACalls Try.prog 8 [thingV t, .int .i64 cut] σ fun v _ => v = .bool true := by
  refine a8 (by simp) ?_
  obtain ⟨F, hF⟩ : ∃ F, F = ACode.wp Try.prog c8_30 := ⟨_, rfl⟩
  have hlen := putB_len ht
  have hput := put_ok (t := t)
  have hwit : ∀ σ0 b σ1, W σ0 b [] σ1 → ACalls Try.prog 10 [.ptr b 0, thingV t] σ1 fun v σ' => v = .str (putB t) ∧ W σ0 b (putB t) σ' := fun σ0 b σ1 h => by
    have := put_ok σ0 b t [] σ1 h ht (by simp)
    simpa using this
  clear hput
  -- the end: two readers' words
  have fin : ∀ (a : AFr) (σ1 : ASt) (d : Nat) (s : List UInt8) (p : Nat), a 7 = .ptr d 0 → σ1 d = rd s p 2 → F (RetQ [.t 4] fun v _ => v = .bool true) a σ1 := by
    intro a σ1 d s p h7 hd
    rw [hF]
    simp (disch := first | assumption | omega | (simp only [List.length_append]; omega)) only [go_sem, reduceCtorEq, Nat.reduceEqDiff, Nat.reduceAdd, Nat.reduceSub, Nat.reduceMul, Nat.reduceLeDiff, Int.reduceLT, Int.reduceLE, Int.reduceEq, ↓reduceIte, Int.reduceNeg, Int.reduceAdd, Int.reduceSub, Int.reduceMul, true_imp_iff, forall_const, Nat.mul_one, Int.reduceToNat, Nat.reducePow, Int.reducePow, Bool.true_and, Bool.false_and, Bool.and_false]
    refine awake_ok.use ?_
    simp (disch := first | assumption | omega | (simp only [List.length_append]; omega)) only [go_sem, reduceCtorEq, Nat.reduceEqDiff, Nat.reduceAdd, Nat.reduceSub, Nat.reduceMul, Nat.reduceLeDiff, Int.reduceLT, Int.reduceLE, Int.reduceEq, ↓reduceIte, Int.reduceNeg, Int.reduceAdd, Int.reduceSub, Int.reduceMul, true_imp_iff, forall_const, Nat.mul_one, Int.reduceToNat, Nat.reducePow, Int.reducePow, Bool.true_and, Bool.false_and, Bool.and_false, h7]
    refine (rerr_ok s p 2 d _ hd).mono ?_
    rintro v σ' ⟨rfl, rfl⟩
    simp (disch := first | assumption | omega | (simp only [List.length_append]; omega)) only [go_sem, reduceCtorEq, Nat.reduceEqDiff, Nat.reduceAdd, Nat.reduceSub, Nat.reduceMul, Nat.reduceLeDiff, Int.reduceLT, Int.reduceLE, Int.reduceEq, ↓reduceIte, Int.reduceNeg, Int.reduceAdd, Int.reduceSub, Int.reduceMul, true_imp_iff, forall_const, Nat.mul_one, Int.reduceToNat, Nat.reducePow, Int.reducePow, Bool.true_and, Bool.false_and, Bool.and_false, h7]
    refine (rdone2 s p d _ hd).mono ?_
    rintro v σ' ⟨rfl, rfl⟩
    simp (disch := first | assumption | omega | (simp only [List.length_append]; omega)) only [go_sem, reduceCtorEq, Nat.reduceEqDiff, Nat.reduceAdd, Nat.reduceSub, Nat.reduceMul, Nat.reduceLeDiff, Int.reduceLT, Int.reduceLE, Int.reduceEq, ↓reduceIte, Int.reduceNeg, Int.reduceAdd, Int.reduceSub, Int.reduceMul, true_imp_iff, forall_const, Nat.mul_one, Int.reduceToNat, Nat.reducePow, Int.reducePow, Bool.true_and, Bool.false_and, Bool.and_false]
    exact retC_by (Drop.refl _) (.refl _) rfl
  obtain ⟨n1, n2, u1, u2, l1, l2⟩ := ht
  have hrr := risingL_rises l2
  have hrl := risingL_len t.l
  obtain ⟨q, hq⟩ : ∃ q, putB t = q := ⟨_, rfl⟩
  rw [hq] at hwit hlen
  unfold putB at hq
  obtain ⟨kind, n, u, x, L⟩ := t
  dsimp only at *
  unfold thingV at hwit ⊢
  dsimp only at hwit ⊢
  simp (disch := first | assumption | omega | (simp only [List.length_append]; omega)) only [go_sem, reduceCtorEq, Nat.reduceEqDiff, Nat.reduceAdd, Nat.reduceSub, Nat.reduceMul, Nat.reduceLeDiff, Int.reduceLT, Int.reduceLE, Int.reduceEq, ↓reduceIte, Int.reduceNeg, Int.reduceAdd, Int.reduceSub, Int.reduceMul, true_imp_iff, forall_const, Nat.mul_one, Int.reduceToNat, Nat.reducePow, Int.reducePow, Bool.true_and, Bool.false_and, Bool.and_false, ←hF]
  refine boxC_by rfl fun c hc => ?_
  simp (disch := first | assumption | omega | (simp only [List.length_append]; omega)) only [go_sem, reduceCtorEq, Nat.reduceEqDiff, Nat.reduceAdd, Nat.reduceSub, Nat.reduceMul, Nat.reduceLeDiff, Int.reduceLT, Int.reduceLE, Int.reduceEq, ↓reduceIte, Int.reduceNeg, Int.reduceAdd, Int.reduceSub, Int.reduceMul, true_imp_iff, forall_const, Nat.mul_one, Int.reduceToNat, Nat.reducePow, Int.reducePow, Bool.true_and, Bool.false_and, Bool.and_false, ←hF]
  refine allocC_by fun b hb => ?_
  have hb' := set_none hb
  obtain ⟨m1, m2, hb0⟩ := hb'
  have hW0 : W (σ.set c (some (.obj [.int .i64 kind, .int .i64 n, .int .u64 u, .str x, .sl .shr (L.map (AV.int .u64))]))) b [] ((σ.set c (some (.obj [.int .i64 kind, .int .i64 n, .int .u64 u, .str x, .sl .shr (L.map (AV.int .u64))]))).set b (some (.obj [.sl .full []]))) := ⟨.full, .inl ⟨rfl, rfl, rfl⟩⟩
  simp (disch := first | assumption | omega | (simp only [List.length_append]; omega)) only [go_sem, reduceCtorEq, Nat.reduceEqDiff, Nat.reduceAdd, Nat.reduceSub, Nat.reduceMul, Nat.reduceLeDiff, Int.reduceLT, Int.reduceLE, Int.reduceEq, ↓reduceIte, Int.reduceNeg, Int.reduceAdd, Int.reduceSub, Int.reduceMul, true_imp_iff, forall_const, Nat.mul_one, Int.reduceToNat, Nat.reducePow, Int.reducePow, Bool.true_and, Bool.false_and, Bool.and_false, ←hF]
  refine (hwit _ b _ hW0).mono ?_
  rintro v σ1 ⟨rfl, hW1⟩
  have hc1 := hW1.role m2
  simp (disch := first | assumption | omega | (simp only [List.length_append]; omega)) only [go_sem, reduceCtorEq, Nat.reduceEqDiff, Nat.reduceAdd, Nat.reduceSub, Nat.reduceMul, Nat.reduceLeDiff, Int.reduceLT, Int.reduceLE, Int.reduceEq, ↓reduceIte, Int.reduceNeg, Int.reduceAdd, Int.reduceSub, Int.reduceMul, true_imp_iff, forall_const, Nat.mul_one, Int.reduceToNat, Nat.reducePow, Int.reducePow, Bool.true_and, Bool.false_and, Bool.and_false, ←hF]
  refine (wbytes_ok _ b _ _ hW1).mono ?_
  rintro v σ2 ⟨rfl, rfl⟩
  clear hW1 hwit
  by_cases hbad : kind < 1 ∨ 4 < kind ∨ cut < 0 ∨ (q.length : Int) ≤ cut
  · repeat' (first | (simp (disch := first | assumption | omega | (simp only [List.length_append]; omega)) only [go_sem, reduceCtorEq, Nat.reduceEqDiff, Nat.reduceAdd, Nat.reduceSub, Nat.reduceMul, Nat.reduceLeDiff, Int.reduceLT, Int.reduceLE, Int.reduceEq, ↓reduceIte, Int.reduceNeg, Int.reduceAdd, Int.reduceSub, Int.reduceMul, true_imp_iff, forall_const, Nat.mul_one, Int.reduceToNat, Nat.reducePow, Int.reducePow, Bool.true_and, Bool.false_and, Bool.and_false, hc1, ←hF]) | refine awake_ok.use ?_ | with_reducible refine gC_d (fun h => ?_) (fun h => ?_) | with_reducible refine gC_dn (fun h => ?_) (fun h => ?_) | with_reducible refine condC_d (fun h => ?_) (fun h => ?_) | with_reducible refine condC_n (fun h => ?_) (fun h => ?_) | with_reducible refine condC_b (fun h => ?_) (fun h => ?_) | with_reducible refine boxC_by ?_ fun b hb => ?_)
    all_goals first
      | (exfalso; omega)
      | exact retC_by (Drop.refl _) (.refl _) rfl
  · have b1 : ¬ kind < 1 := by omega
    have b2 : ¬ 4 < kind := by omega
    have b3 : ¬ cut < 0 := by omega
    have b4 : ¬ (q.length : Int) ≤ cut := by omega
    obtain ⟨j, rfl⟩ : ∃ j : Nat, cut = j := ⟨cut.toNat, by omega⟩
    have hj : j < q.length := by omega
    have hj0 : (j : Int) ≤ q.length := by omega
    have htl : (q.take j).length ≤ 210 := by simp; omega
    simp (disch := first | assumption | omega | (simp only [List.length_append]; omega)) only [go_sem, reduceCtorEq, Nat.reduceEqDiff, Nat.reduceAdd, Nat.reduceSub, Nat.reduceMul, Nat.reduceLeDiff, Int.reduceLT, Int.reduceLE, Int.reduceEq, ↓reduceIte, Int.reduceNeg, Int.reduceAdd, Int.reduceSub, Int.reduceMul, true_imp_iff, forall_const, Nat.mul_one, Int.reduceToNat, Nat.reducePow, Int.reducePow, Bool.true_and, Bool.false_and, Bool.and_false, hc1, b1, b2, b3, b4, hj0, ←hF]
    refine (rread_ok (q.take j) σ2).mono ?_
    rintro v σ3 ⟨d, rfl, hd, rfl⟩
    have hcd : c ≠ d := by rintro rfl; rw [hc1] at hd; cases hd
    have hrd : σ2.set d (rd (q.take j) 0 0) d = rd (q.take j) 0 0 := ASt.set_same _ _ _
    have hdr : (q.take j).drop 0 = q.take j := rfl
    by_cases k1 : kind = 1
    · rw [if_pos k1] at hq
      subst hq
      have hr := readU_cut hdr hj (by omega)
      simp (disch := first | assumption | omega | (simp only [List.length_append]; omega)) only [go_sem, reduceCtorEq, Nat.reduceEqDiff, Nat.reduceAdd, Nat.reduceSub, Nat.reduceMul, Nat.reduceLeDiff, Int.reduceLT, Int.reduceLE, Int.reduceEq, ↓reduceIte, Int.reduceNeg, Int.reduceAdd, Int.reduceSub, Int.reduceMul, true_imp_iff, forall_const, Nat.mul_one, Int.reduceToNat, Nat.reducePow, Int.reducePow, Bool.true_and, Bool.false_and, Bool.and_false, hc1, k1, ←hF]
      refine (ruint_ok _ 0 0 d _ hrd (by omega) (by omega)).mono ?_
      rw [hr]
      rintro v σ' ⟨rfl, rfl⟩
      simp (disch := first | assumption | omega | (simp only [List.length_append]; omega)) only [go_sem, reduceCtorEq, Nat.reduceEqDiff, Nat.reduceAdd, Nat.reduceSub, Nat.reduceMul, Nat.reduceLeDiff, Int.reduceLT, Int.reduceLE, Int.reduceEq, ↓reduceIte, Int.reduceNeg, Int.reduceAdd, Int.reduceSub, Int.reduceMul, true_imp_iff, forall_const, Nat.mul_one, Int.reduceToNat, Nat.reducePow, Int.reducePow, Bool.true_and, Bool.false_and, Bool.and_false, ←hF]
      refine fin _ _ d _ 0 ?_ (ASt.set_same _ _ _)
      simp (disch := first | assumption | omega | (simp only [List.length_append]; omega)) only [go_sem, reduceCtorEq, Nat.reduceEqDiff, Nat.reduceAdd, Nat.reduceSub, Nat.reduceMul, Nat.reduceLeDiff, Int.reduceLT, Int.reduceLE, Int.reduceEq, ↓reduceIte, Int.reduceNeg, Int.reduceAdd, Int.reduceSub, Int.reduceMul, true_imp_iff, forall_const, Nat.mul_one, Int.reduceToNat, Nat.reducePow, Int.reducePow, Bool.true_and, Bool.false_and, Bool.and_false]
    rw [if_neg k1] at hq
    by_cases k2 : kind = 2
    · rw [if_pos k2] at hq
      subst hq
      have hr := readU_cut hdr hj (by have := foldI_bd n1 n2; omega)
      simp (disch := first | assumption | omega | (simp only [List.length_append]; omega)) only [go_sem, reduceCtorEq, Nat.reduceEqDiff, Nat.reduceAdd, Nat.reduceSub, Nat.reduceMul, Nat.reduceLeDiff, Int.reduceLT, Int.reduceLE, Int.reduceEq, ↓reduceIte, Int.reduceNeg, Int.reduceAdd, Int.reduceSub, Int.reduceMul, true_imp_iff, forall_const, Nat.mul_one, Int.reduceToNat, Nat.reducePow, Int.reducePow, Bool.true_and, Bool.false_and, Bool.and_false, hc1, k1, k2, ←hF]
      refine (rint_ok _ 0 0 d _ hrd (by omega) (by omega)).mono ?_
      rw [hr]
      rintro v σ' ⟨rfl, rfl⟩
      simp (disch := first | assumption | omega | (simp only [List.length_append]; omega)) only [go_sem, reduceCtorEq, Nat.reduceEqDiff, Nat.reduceAdd, Nat.reduceSub, Nat.reduceMul, Nat.reduceLeDiff, Int.reduceLT, Int.reduceLE, Int.reduceEq, ↓reduceIte, Int.reduceNeg, Int.reduceAdd, Int.reduceSub, Int.reduceMul, true_imp_iff, forall_const, Nat.mul_one, Int.reduceToNat, Nat.reducePow, Int.reducePow, Bool.true_and, Bool.false_and, Bool.and_false, ←hF]
      refine fin _ _ d _ 0 ?_ (ASt.set_same _ _ _)
      simp (disch := first | assumption | omega | (simp only [List.length_append]; omega)) only [go_sem, reduceCtorEq, Nat.reduceEqDiff, Nat.reduceAdd, Nat.reduceSub, Nat.reduceMul, Nat.reduceLeDiff, Int.reduceLT, Int.reduceLE, Int.reduceEq, ↓reduceIte, Int.reduceNeg, Int.reduceAdd, Int.reduceSub, Int.reduceMul, true_imp_iff, forall_const, Nat.mul_one, Int.reduceToNat, Nat.reducePow, Int.reducePow, Bool.true_and, Bool.false_and, Bool.and_false]
    rw [if_neg k2] at hq
    by_cases k3 : kind = 3
    · rw [if_pos k3] at hq
      subst hq
      have hr := textP_cut (x := x.take 200) (by simp; omega) hj
      simp (disch := first | assumption | omega | (simp only [List.length_append]; omega)) only [go_sem, reduceCtorEq, Nat.reduceEqDiff, Nat.reduceAdd, Nat.reduceSub, Nat.reduceMul, Nat.reduceLeDiff, Int.reduceLT, Int.reduceLE, Int.reduceEq, ↓reduceIte, Int.reduceNeg, Int.reduceAdd, Int.reduceSub, Int.reduceMul, true_imp_iff, forall_const, Nat.mul_one, Int.reduceToNat, Nat.reducePow, Int.reducePow, Bool.true_and, Bool.false_and, Bool.and_false, hc1, k1, k2, k3, ←hF]
      refine (rtext_ok _ 0 0 200 d _ hrd (by omega) (by omega) (by omega)).mono ?_
      rw [hr]
      rintro v σ' ⟨rfl, rfl⟩
      simp (disch := first | assumption | omega | (simp only [List.length_append]; omega)) only [go_sem, reduceCtorEq, Nat.reduceEqDiff, Nat.reduceAdd, Nat.reduceSub, Nat.reduceMul, Nat.reduceLeDiff, Int.reduceLT, Int.reduceLE, Int.reduceEq, ↓reduceIte, Int.reduceNeg, Int.reduceAdd, Int.reduceSub, Int.reduceMul, true_imp_iff, forall_const, Nat.mul_one, Int.reduceToNat, Nat.reducePow, Int.reducePow, Bool.true_and, Bool.false_and, Bool.and_false, ←hF]
      refine fin _ _ d _ _ ?_ (ASt.set_same _ _ _)
      simp (disch := first | assumption | omega | (simp only [List.length_append]; omega)) only [go_sem, reduceCtorEq, Nat.reduceEqDiff, Nat.reduceAdd, Nat.reduceSub, Nat.reduceMul, Nat.reduceLeDiff, Int.reduceLT, Int.reduceLE, Int.reduceEq, ↓reduceIte, Int.reduceNeg, Int.reduceAdd, Int.reduceSub, Int.reduceMul, true_imp_iff, forall_const, Nat.mul_one, Int.reduceToNat, Nat.reducePow, Int.reducePow, Bool.true_and, Bool.false_and, Bool.and_false]
    rw [if_neg k3] at hq
    have k4 : kind = 4 := by omega
    rw [if_pos k4] at hq
    subst hq
    have hr := risingR_cut hrr (most := 20) hj (by omega) (by omega)
    simp (disch := first | assumption | omega | (simp only [List.length_append]; omega)) only [go_sem, reduceCtorEq, Nat.reduceEqDiff, Nat.reduceAdd, Nat.reduceSub, Nat.reduceMul, Nat.reduceLeDiff, Int.reduceLT, Int.reduceLE, Int.reduceEq, ↓reduceIte, Int.reduceNeg, Int.reduceAdd, Int.reduceSub, Int.reduceMul, true_imp_iff, forall_const, Nat.mul_one, Int.reduceToNat, Nat.reducePow, Int.reducePow, Bool.true_and, Bool.false_and, Bool.and_false, hc1, k1, k2, k3, k4, ←hF]
    refine (rrising_ok _ 0 0 20 d _ hrd (by omega) (by omega) (by omega)).mono ?_
    rw [hr]
    rintro v σ' ⟨rfl, rfl⟩
    simp (disch := first | assumption | omega | (simp only [List.length_append]; omega)) only [go_sem, reduceCtorEq, Nat.reduceEqDiff, Nat.reduceAdd, Nat.reduceSub, Nat.reduceMul, Nat.reduceLeDiff, Int.reduceLT, Int.reduceLE, Int.reduceEq, ↓reduceIte, Int.reduceNeg, Int.reduceAdd, Int.reduceSub, Int.reduceMul, true_imp_iff, forall_const, Nat.mul_one, Int.reduceToNat, Nat.reducePow, Int.reducePow, Bool.true_and, Bool.false_and, Bool.and_false, ←hF]
    refine fin _ _ d _ _ ?_ (ASt.set_same _ _ _)
    simp (disch := first | assumption | omega | (simp only [List.length_append]; omega)) only [go_sem, reduceCtorEq, Nat.reduceEqDiff, Nat.reduceAdd, Nat.reduceSub, Nat.reduceMul, Nat.reduceLeDiff, Int.reduceLT, Int.reduceLE, Int.reduceEq, ↓reduceIte, Int.reduceNeg, Int.reduceAdd, Int.reduceSub, Int.reduceMul, true_imp_iff, forall_const, Nat.mul_one, Int.reduceToNat, Nat.reducePow, Int.reducePow, Bool.true_and, Bool.false_and, Bool.and_false]
end Go.A
