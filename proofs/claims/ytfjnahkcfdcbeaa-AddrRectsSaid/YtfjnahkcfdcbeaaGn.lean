/- AddrRects, walked. -/
import Derived.Test.YtfjnahkcfdcbeaaGm
namespace Go.A
open Go.Proofs
set_option maxRecDepth 100000
set_option linter.unusedSimpArgs false
set_option linter.unusedVariables false

theorem ahas_ok {r : Rct} (h : r.good = true) (i j : Int) (h3 : i ≤ 9223372036854775807) (h4 : j ≤ 9223372036854775807) : Pure Try.prog 17 [r.av, .int .i64 i, .int .i64 j] (.bool (r.has i j)) :=
  has_ok r.row r.col r.rows r.cols i j (Rct.good_iff.1 h).1 (Rct.good_iff.1 h).2.1 h3 h4
theorem agood_ok (r : Rct) : Pure Try.prog 18 [r.av] (.bool r.good) := goodRect_ok r.row r.col r.rows r.cols

theorem rects_rest {a b : Rct} (ha : a.good = true) (hb : b.good = true) {i j : Int} (hi : i ≤ 9223372036854775807) (hj : j ≤ 9223372036854775807)
    {σ σ3 : ASt} {b0 b1 b2 b3 b4 : Nat} {fr : AFr} (f2 : fr 2 = .int .i64 i) (f3 : fr 3 = .int .i64 j) (f4 : fr 4 = .ptr b0 0) (f9 : fr 9 = .ptr b2 0) (f10 : fr 10 = .ptr b3 0) (f11 : fr 11 = .ptr b4 0) (f12 : fr 12 = .bool (meetP a b).2)
    (f13 : fr 13 = .sl .shr ((lessP a b).map Rct.av)) (f14 : fr 14 = .int .i64 (sumC (lessP a b))) (f15 : fr 15 = .int .i64 (cntH i j (lessP a b)))
    (r0 : σ3 b0 = some (.obj a.av.cells)) (r2 : σ3 b2 = some (.obj a.av.cells)) (r3 : σ3 b3 = some (.obj b.av.cells)) (r4 : σ3 b4 = some (.obj (meetP a b).1.av.cells)) (hd : Drop σ3 σ) :
    ACode.wp Try.prog c7_61 (RetQ [.t 8] fun v σ' => v = .bool true ∧ σ' = σ) fr σ3 := by
  obtain ⟨l1, l2, l3, l4⟩ := less_law ha hb i j
  obtain ⟨hm1, hm2⟩ := meet_has ha hb i j
  have hmg := meet_good ha hb
  have hb1 := sumC_take l1 (lessP a b).length (Nat.le_refl _)
  have hb2 := cntH_take (L := lessP a b) i j (lessP a b).length (Nat.le_refl _)
  rw [List.take_length] at hb1 hb2
  have hca := Rct.cells_bd ha
  obtain ⟨C, hC⟩ : ∃ C, a.cells = C := ⟨_, rfl⟩
  have hp : a.rows * a.cols = C := hC
  have hcell := cells_ok ha
  rw [hC] at hca l3 hcell
  have hxa := fun h3 h4 => ahas_ok ha i j h3 h4
  have hra := rhas_ok ha i j
  have hrb := rhas_ok hb i j
  obtain ⟨S, hS⟩ : ∃ S, sumC (lessP a b) = S := ⟨_, rfl⟩
  obtain ⟨N, hN⟩ : ∃ N, cntH i j (lessP a b) = N := ⟨_, rfl⟩
  obtain ⟨L, hL⟩ : ∃ L, lessP a b = L := ⟨_, rfl⟩
  rw [hS] at hb1 l3 f14
  rw [hN] at hb2 l4 f15
  rw [hL] at f13 l2 hb1 hb2
  have hlen : ((L.map Rct.av).length : Int) ≤ 4 := by rw [List.length_map]; omega
  have hlen2 : (L.length : Int) ≤ 4 := by omega
  clear hS hN hL l1
  obtain ⟨x, hx⟩ : ∃ x, a.has i j = x := ⟨_, rfl⟩
  obtain ⟨y, hy⟩ : ∃ y, b.has i j = y := ⟨_, rfl⟩
  rw [hx] at hxa hra hm1 hm2 l4
  rw [hy] at hrb hm1 hm2 l4
  obtain ⟨q, hq⟩ : ∃ q, meetP a b = q := ⟨_, rfl⟩
  rw [hq] at f12 r4 l3 hm1 hm2 hmg
  obtain ⟨m, ok⟩ := q
  simp only [Rct.av, rectAV] at r0 r2 r3 r4
  rw [c7_61_wp]
  cases ok with
  | true =>
    replace hmg := hmg rfl
    replace hm1 := hm1 rfl
    have hmc := Rct.cells_bd hmg
    have hmcell := cells_ok hmg
    have hmx := ahas_ok hmg i j hi hj
    simp only at hm1 hmx l3 hmc hmcell
    rw [hm1] at hmx
    have hmgo := agood_ok m
    rw [hmg] at hmgo
    simp only [if_true] at l3
    obtain ⟨M, hM⟩ : ∃ M, m.cells = M := ⟨_, rfl⟩
    rw [hM] at l3 hmc hmcell
    clear hm1 hm2
    cases x <;> cases y <;> simp only [Bool.true_eq_false, Bool.false_eq_true, and_true, true_and, and_false, false_and, if_true, if_false, Bool.and_self, Bool.and_true, Bool.and_false] at l4 hmx <;> subst l4
    all_goals (repeat' (first | (simp (disch := first | assumption | omega | (simp only [List.length_append]; omega)) only [go_sem, reduceCtorEq, Nat.reduceEqDiff, Nat.reduceAdd, Nat.reduceSub, Nat.reduceMul, Nat.reduceLeDiff, Int.reduceLT, Int.reduceLE, Int.reduceEq, ↓reduceIte, Int.reduceNeg, Int.reduceAdd, Int.reduceSub, Int.reduceMul, true_imp_iff, forall_const, Nat.mul_one, Int.reduceToNat, Nat.reducePow, Int.reducePow, Bool.true_and, Bool.false_and, Bool.and_false, f2, f3, f4, f9, f10, f11, f12, f13, f14, f15, r0, r2, r3, r4, l3, hp, hlen, hlen2]) | refine hmcell.use ?_ | refine hcell.use ?_ | refine hra.use ?_ | refine hrb.use ?_ | refine (hxa hi hj).use ?_ | refine hmx.use ?_ | refine hmgo.use ?_ | with_reducible refine gC_d (fun h => ?_) (fun h => ?_) | with_reducible refine gC_dn (fun h => ?_) (fun h => ?_) | with_reducible refine condC_d (fun h => ?_) (fun h => ?_) | with_reducible refine condC_n (fun h => ?_) (fun h => ?_) | with_reducible refine condC_b (fun h => ?_) (fun h => ?_) | with_reducible refine boxC_by ?_ fun b hb => ?_))
    all_goals exact retC_by hd (.refl _) ⟨rfl, rfl⟩
  | false =>
    obtain ⟨hmA, hm3⟩ := hm2 rfl
    clear hm2
    simp only at hm3
    subst hm3
    rw [if_neg (by simp), Int.add_zero] at l3
    subst l3
    clear hm1 hmg
    have hxy : x = true → y = true → False := fun h h' => by rw [h, h'] at hmA; cases hmA
    clear hmA
    cases x <;> cases y <;> first | exact (hxy rfl rfl).elim | (simp only [Bool.true_eq_false, Bool.false_eq_true, and_true, true_and, and_false, false_and, if_true, if_false] at l4 ; subst l4)
    all_goals clear hxy
    all_goals (repeat' (first | (simp (disch := first | assumption | omega | (simp only [List.length_append]; omega)) only [go_sem, reduceCtorEq, Nat.reduceEqDiff, Nat.reduceAdd, Nat.reduceSub, Nat.reduceMul, Nat.reduceLeDiff, Int.reduceLT, Int.reduceLE, Int.reduceEq, ↓reduceIte, Int.reduceNeg, Int.reduceAdd, Int.reduceSub, Int.reduceMul, true_imp_iff, forall_const, Nat.mul_one, Int.reduceToNat, Nat.reducePow, Int.reducePow, Bool.true_and, Bool.false_and, Bool.and_false, f2, f3, f4, f9, f10, f11, f12, f13, f14, f15, r0, r2, r3, r4, hp, hlen, hlen2]) | refine hcell.use ?_ | refine hra.use ?_ | refine hrb.use ?_ | refine (hxa hi hj).use ?_ | with_reducible refine gC_d (fun h => ?_) (fun h => ?_) | with_reducible refine gC_dn (fun h => ?_) (fun h => ?_) | with_reducible refine condC_d (fun h => ?_) (fun h => ?_) | with_reducible refine condC_n (fun h => ?_) (fun h => ?_) | with_reducible refine condC_b (fun h => ?_) (fun h => ?_) | with_reducible refine boxC_by ?_ fun b hb => ?_))
    all_goals exact retC_by hd (.refl _) ⟨rfl, rfl⟩

theorem take_all {L : List Rct} : L.take L.length = L := List.take_length
set_option maxHeartbeats 1000000 in
theorem rects_loop {a b : Rct} (ha : a.good = true) (hb : b.good = true) {i j : Int} (hi : -9223372036854775808 ≤ i ∧ i ≤ 9223372036854775807) (hj : -9223372036854775808 ≤ j ∧ j ≤ 9223372036854775807)
    {σ σ3 : ASt} {b0 b1 b2 b3 b4 : Nat} {fr : AFr} (f2 : fr 2 = .int .i64 i) (f3 : fr 3 = .int .i64 j) (f4 : fr 4 = .ptr b0 0) (f9 : fr 9 = .ptr b2 0) (f10 : fr 10 = .ptr b3 0) (f11 : fr 11 = .ptr b4 0) (f12 : fr 12 = .bool (meetP a b).2)
    (f13 : fr 13 = .sl .shr ((lessP a b).map Rct.av)) (f14 : fr 14 = .int .i64 0) (f15 : fr 15 = .int .i64 0)
    (r0 : σ3 b0 = some (.obj a.av.cells)) (r2 : σ3 b2 = some (.obj a.av.cells)) (r3 : σ3 b3 = some (.obj b.av.cells)) (r4 : σ3 b4 = some (.obj (meetP a b).1.av.cells)) (hd : Drop σ3 σ) :
    ACode.wp Try.prog c7_62 (RetQ [.t 8] fun v σ' => v = .bool true ∧ σ' = σ) fr σ3 := by
  have rest := fun fr f2 f3 f4 f9 f10 f11 f12 f13 f14 f15 => rects_rest ha hb (i := i) (j := j) hi.2 hj.2 (σ := σ) (σ3 := σ3) (b0 := b0) (b1 := b1) (b2 := b2) (b3 := b3) (b4 := b4) (fr := fr) f2 f3 f4 f9 f10 f11 f12 f13 f14 f15 r0 r2 r3 r4 hd
  obtain ⟨l1, l2, -, -⟩ := less_law ha hb i j
  obtain ⟨L, hL⟩ : ∃ L, lessP a b = L := ⟨_, rfl⟩
  rw [hL] at l1 l2 f13 rest
  obtain ⟨F, hF⟩ : ∃ F, F = ACode.wp Try.prog c7_61 := ⟨_, rfl⟩
  rw [← hF] at rest
  rw [c7_62_wp]
  simp (disch := first | assumption | omega | (simp only [List.length_append]; omega)) only [go_sem, reduceCtorEq, Nat.reduceEqDiff, Nat.reduceAdd, Nat.reduceSub, Nat.reduceMul, Nat.reduceLeDiff, Int.reduceLT, Int.reduceLE, Int.reduceEq, ↓reduceIte, Int.reduceNeg, Int.reduceAdd, Int.reduceSub, Int.reduceMul, true_imp_iff, forall_const, Nat.mul_one, Int.reduceToNat, Nat.reducePow, Int.reducePow, Bool.true_and, Bool.false_and, Bool.and_false, f13, ←hF]
  refine wp_loop_by (fun (k : Nat) fr' σ' => σ' = σ3 ∧ k ≤ L.length ∧ fr' 2 = .int .i64 i ∧ fr' 3 = .int .i64 j ∧ fr' 4 = .ptr b0 0 ∧ fr' 9 = .ptr b2 0 ∧ fr' 10 = .ptr b3 0 ∧ fr' 11 = .ptr b4 0 ∧ fr' 12 = .bool (meetP a b).2 ∧ fr' 13 = .sl .shr (L.map Rct.av)
      ∧ fr' 14 = .int .i64 (sumC (L.take k)) ∧ fr' 15 = .int .i64 (cntH i j (L.take k)) ∧ fr' 74 = .sl .shr (L.map Rct.av) ∧ fr' 75 = .int .i64 L.length ∧ fr' 76 = .int .i64 k) (fun k => L.length - k) 0 (Dr.now ⟨rfl, Nat.zero_le _, ?_, ?_, ?_, ?_, ?_, ?_, ?_, ?_, ?_, ?_, ?_, ?_, ?_⟩) ?_
  · simp (disch := first | assumption | omega | (simp only [List.length_append]; omega)) only [go_sem, reduceCtorEq, Nat.reduceEqDiff, Nat.reduceAdd, Nat.reduceSub, Nat.reduceMul, Nat.reduceLeDiff, Int.reduceLT, Int.reduceLE, Int.reduceEq, ↓reduceIte, Int.reduceNeg, Int.reduceAdd, Int.reduceSub, Int.reduceMul, true_imp_iff, forall_const, Nat.mul_one, Int.reduceToNat, Nat.reducePow, Int.reducePow, Bool.true_and, Bool.false_and, Bool.and_false, f2]
  · simp (disch := first | assumption | omega | (simp only [List.length_append]; omega)) only [go_sem, reduceCtorEq, Nat.reduceEqDiff, Nat.reduceAdd, Nat.reduceSub, Nat.reduceMul, Nat.reduceLeDiff, Int.reduceLT, Int.reduceLE, Int.reduceEq, ↓reduceIte, Int.reduceNeg, Int.reduceAdd, Int.reduceSub, Int.reduceMul, true_imp_iff, forall_const, Nat.mul_one, Int.reduceToNat, Nat.reducePow, Int.reducePow, Bool.true_and, Bool.false_and, Bool.and_false, f3]
  · simp (disch := first | assumption | omega | (simp only [List.length_append]; omega)) only [go_sem, reduceCtorEq, Nat.reduceEqDiff, Nat.reduceAdd, Nat.reduceSub, Nat.reduceMul, Nat.reduceLeDiff, Int.reduceLT, Int.reduceLE, Int.reduceEq, ↓reduceIte, Int.reduceNeg, Int.reduceAdd, Int.reduceSub, Int.reduceMul, true_imp_iff, forall_const, Nat.mul_one, Int.reduceToNat, Nat.reducePow, Int.reducePow, Bool.true_and, Bool.false_and, Bool.and_false, f4]
  · simp (disch := first | assumption | omega | (simp only [List.length_append]; omega)) only [go_sem, reduceCtorEq, Nat.reduceEqDiff, Nat.reduceAdd, Nat.reduceSub, Nat.reduceMul, Nat.reduceLeDiff, Int.reduceLT, Int.reduceLE, Int.reduceEq, ↓reduceIte, Int.reduceNeg, Int.reduceAdd, Int.reduceSub, Int.reduceMul, true_imp_iff, forall_const, Nat.mul_one, Int.reduceToNat, Nat.reducePow, Int.reducePow, Bool.true_and, Bool.false_and, Bool.and_false, f9]
  · simp (disch := first | assumption | omega | (simp only [List.length_append]; omega)) only [go_sem, reduceCtorEq, Nat.reduceEqDiff, Nat.reduceAdd, Nat.reduceSub, Nat.reduceMul, Nat.reduceLeDiff, Int.reduceLT, Int.reduceLE, Int.reduceEq, ↓reduceIte, Int.reduceNeg, Int.reduceAdd, Int.reduceSub, Int.reduceMul, true_imp_iff, forall_const, Nat.mul_one, Int.reduceToNat, Nat.reducePow, Int.reducePow, Bool.true_and, Bool.false_and, Bool.and_false, f10]
  · simp (disch := first | assumption | omega | (simp only [List.length_append]; omega)) only [go_sem, reduceCtorEq, Nat.reduceEqDiff, Nat.reduceAdd, Nat.reduceSub, Nat.reduceMul, Nat.reduceLeDiff, Int.reduceLT, Int.reduceLE, Int.reduceEq, ↓reduceIte, Int.reduceNeg, Int.reduceAdd, Int.reduceSub, Int.reduceMul, true_imp_iff, forall_const, Nat.mul_one, Int.reduceToNat, Nat.reducePow, Int.reducePow, Bool.true_and, Bool.false_and, Bool.and_false, f11]
  · simp (disch := first | assumption | omega | (simp only [List.length_append]; omega)) only [go_sem, reduceCtorEq, Nat.reduceEqDiff, Nat.reduceAdd, Nat.reduceSub, Nat.reduceMul, Nat.reduceLeDiff, Int.reduceLT, Int.reduceLE, Int.reduceEq, ↓reduceIte, Int.reduceNeg, Int.reduceAdd, Int.reduceSub, Int.reduceMul, true_imp_iff, forall_const, Nat.mul_one, Int.reduceToNat, Nat.reducePow, Int.reducePow, Bool.true_and, Bool.false_and, Bool.and_false, f12]
  · simp (disch := first | assumption | omega | (simp only [List.length_append]; omega)) only [go_sem, reduceCtorEq, Nat.reduceEqDiff, Nat.reduceAdd, Nat.reduceSub, Nat.reduceMul, Nat.reduceLeDiff, Int.reduceLT, Int.reduceLE, Int.reduceEq, ↓reduceIte, Int.reduceNeg, Int.reduceAdd, Int.reduceSub, Int.reduceMul, true_imp_iff, forall_const, Nat.mul_one, Int.reduceToNat, Nat.reducePow, Int.reducePow, Bool.true_and, Bool.false_and, Bool.and_false, f13]
  · simp (disch := first | assumption | omega | (simp only [List.length_append]; omega)) only [go_sem, reduceCtorEq, Nat.reduceEqDiff, Nat.reduceAdd, Nat.reduceSub, Nat.reduceMul, Nat.reduceLeDiff, Int.reduceLT, Int.reduceLE, Int.reduceEq, ↓reduceIte, Int.reduceNeg, Int.reduceAdd, Int.reduceSub, Int.reduceMul, true_imp_iff, forall_const, Nat.mul_one, Int.reduceToNat, Nat.reducePow, Int.reducePow, Bool.true_and, Bool.false_and, Bool.and_false, f14, List.take_zero, sumC]
  · simp (disch := first | assumption | omega | (simp only [List.length_append]; omega)) only [go_sem, reduceCtorEq, Nat.reduceEqDiff, Nat.reduceAdd, Nat.reduceSub, Nat.reduceMul, Nat.reduceLeDiff, Int.reduceLT, Int.reduceLE, Int.reduceEq, ↓reduceIte, Int.reduceNeg, Int.reduceAdd, Int.reduceSub, Int.reduceMul, true_imp_iff, forall_const, Nat.mul_one, Int.reduceToNat, Nat.reducePow, Int.reducePow, Bool.true_and, Bool.false_and, Bool.and_false, f15, List.take_zero, cntH]
  · simp (disch := first | assumption | omega | (simp only [List.length_append]; omega)) only [go_sem, reduceCtorEq, Nat.reduceEqDiff, Nat.reduceAdd, Nat.reduceSub, Nat.reduceMul, Nat.reduceLeDiff, Int.reduceLT, Int.reduceLE, Int.reduceEq, ↓reduceIte, Int.reduceNeg, Int.reduceAdd, Int.reduceSub, Int.reduceMul, true_imp_iff, forall_const, Nat.mul_one, Int.reduceToNat, Nat.reducePow, Int.reducePow, Bool.true_and, Bool.false_and, Bool.and_false, f13]
  · simp (disch := first | assumption | omega | (simp only [List.length_append]; omega)) only [go_sem, reduceCtorEq, Nat.reduceEqDiff, Nat.reduceAdd, Nat.reduceSub, Nat.reduceMul, Nat.reduceLeDiff, Int.reduceLT, Int.reduceLE, Int.reduceEq, ↓reduceIte, Int.reduceNeg, Int.reduceAdd, Int.reduceSub, Int.reduceMul, true_imp_iff, forall_const, Nat.mul_one, Int.reduceToNat, Nat.reducePow, Int.reducePow, Bool.true_and, Bool.false_and, Bool.and_false, List.length_map]
  · simp (disch := first | assumption | omega | (simp only [List.length_append]; omega)) only [go_sem, reduceCtorEq, Nat.reduceEqDiff, Nat.reduceAdd, Nat.reduceSub, Nat.reduceMul, Nat.reduceLeDiff, Int.reduceLT, Int.reduceLE, Int.reduceEq, ↓reduceIte, Int.reduceNeg, Int.reduceAdd, Int.reduceSub, Int.reduceMul, true_imp_iff, forall_const, Nat.mul_one, Int.reduceToNat, Nat.reducePow, Int.reducePow, Bool.true_and, Bool.false_and, Bool.and_false]
  rintro k fr' σ' ⟨rfl, hk, g2, g3, g4, g9, g10, g11, g12, g13, g14, g15, g74, g75, g76⟩
  by_cases hlt : k < L.length
  · have hlt' : (k : Int) < L.length := by omega
    have hidx : L[k]? = some L[k] := List.getElem?_eq_getElem hlt
    have hgd := l1 _ (List.getElem_mem hlt)
    obtain ⟨s1, s2⟩ := sumC_take l1 k hk
    obtain ⟨n1, n2⟩ := cntH_take (L := L) i j k hk
    have t1 : sumC (L.take (k + 1)) = sumC (L.take k) + (L[k]).cells := by
      rw [List.take_succ_eq_append_getElem hlt, sumC_app]; simp [sumC]
    have t2 : cntH i j (L.take (k + 1)) = cntH i j (L.take k) + (if (L[k]).has i j = true then 1 else 0) := by
      rw [List.take_succ_eq_append_getElem hlt, cntH_app]; simp [cntH]
    obtain ⟨r, hr⟩ : ∃ r, L[k] = r := ⟨_, rfl⟩
    rw [hr] at hidx hgd t1 t2
    have hcb := Rct.cells_bd hgd
    have hcell := cells_ok hgd
    have hhas := ahas_ok hgd i j hi.2 hj.2
    have hgood := agood_ok r
    rw [hgd] at hgood
    obtain ⟨S, hS⟩ : ∃ S, sumC (L.take k) = S := ⟨_, rfl⟩
    obtain ⟨N, hN⟩ : ∃ N, cntH i j (L.take k) = N := ⟨_, rfl⟩
    obtain ⟨C, hC⟩ : ∃ C, r.cells = C := ⟨_, rfl⟩
    rw [hS] at s1 s2 t1 g14
    rw [hN] at n1 n2 t2 g15
    rw [hC] at hcb hcell t1
    simp (disch := first | assumption | omega | (simp only [List.length_append]; omega)) only [go_sem, reduceCtorEq, Nat.reduceEqDiff, Nat.reduceAdd, Nat.reduceSub, Nat.reduceMul, Nat.reduceLeDiff, Int.reduceLT, Int.reduceLE, Int.reduceEq, ↓reduceIte, Int.reduceNeg, Int.reduceAdd, Int.reduceSub, Int.reduceMul, true_imp_iff, forall_const, Nat.mul_one, Int.reduceToNat, Nat.reducePow, Int.reducePow, Bool.true_and, Bool.false_and, Bool.and_false, g74, g75, g76, hlt', List.getElem?_map, hidx, rectAV, Rct.av, ←hF]
    obtain ⟨x, hx⟩ : ∃ x, r.has i j = x := ⟨_, rfl⟩
    rw [hx] at hhas t2
    refine allocC_by fun bb hbb => ?_
    simp (disch := first | assumption | omega | (simp only [List.length_append]; omega)) only [go_sem, reduceCtorEq, Nat.reduceEqDiff, Nat.reduceAdd, Nat.reduceSub, Nat.reduceMul, Nat.reduceLeDiff, Int.reduceLT, Int.reduceLE, Int.reduceEq, ↓reduceIte, Int.reduceNeg, Int.reduceAdd, Int.reduceSub, Int.reduceMul, true_imp_iff, forall_const, Nat.mul_one, Int.reduceToNat, Nat.reducePow, Int.reducePow, Bool.true_and, Bool.false_and, Bool.and_false, ←hF]
    refine hgood.use ?_
    simp (disch := first | assumption | omega | (simp only [List.length_append]; omega)) only [go_sem, reduceCtorEq, Nat.reduceEqDiff, Nat.reduceAdd, Nat.reduceSub, Nat.reduceMul, Nat.reduceLeDiff, Int.reduceLT, Int.reduceLE, Int.reduceEq, ↓reduceIte, Int.reduceNeg, Int.reduceAdd, Int.reduceSub, Int.reduceMul, true_imp_iff, forall_const, Nat.mul_one, Int.reduceToNat, Nat.reducePow, Int.reducePow, Bool.true_and, Bool.false_and, Bool.and_false, g14, ←hF]
    refine hcell.use ?_
    simp (disch := first | assumption | omega | (simp only [List.length_append]; omega)) only [go_sem, reduceCtorEq, Nat.reduceEqDiff, Nat.reduceAdd, Nat.reduceSub, Nat.reduceMul, Nat.reduceLeDiff, Int.reduceLT, Int.reduceLE, Int.reduceEq, ↓reduceIte, Int.reduceNeg, Int.reduceAdd, Int.reduceSub, Int.reduceMul, true_imp_iff, forall_const, Nat.mul_one, Int.reduceToNat, Nat.reducePow, Int.reducePow, Bool.true_and, Bool.false_and, Bool.and_false, g2, g3, g14, ←hF]
    refine hhas.use ?_
    cases x
    · simp only [Bool.false_eq_true, if_false, Int.add_zero] at t2
      simp (disch := first | assumption | omega | (simp only [List.length_append]; omega)) only [go_sem, reduceCtorEq, Nat.reduceEqDiff, Nat.reduceAdd, Nat.reduceSub, Nat.reduceMul, Nat.reduceLeDiff, Int.reduceLT, Int.reduceLE, Int.reduceEq, ↓reduceIte, Int.reduceNeg, Int.reduceAdd, Int.reduceSub, Int.reduceMul, true_imp_iff, forall_const, Nat.mul_one, Int.reduceToNat, Nat.reducePow, Int.reducePow, Bool.true_and, Bool.false_and, Bool.and_false, g76, ←hF]
      refine ⟨k + 1, by dsimp only; omega, Dr.lay hbb ⟨rfl, by omega, ?_, ?_, ?_, ?_, ?_, ?_, ?_, ?_, ?_, ?_, ?_, ?_, ?_⟩⟩ <;> simp (disch := first | assumption | omega | (simp only [List.length_append]; omega)) only [go_sem, reduceCtorEq, Nat.reduceEqDiff, Nat.reduceAdd, Nat.reduceSub, Nat.reduceMul, Nat.reduceLeDiff, Int.reduceLT, Int.reduceLE, Int.reduceEq, ↓reduceIte, Int.reduceNeg, Int.reduceAdd, Int.reduceSub, Int.reduceMul, true_imp_iff, forall_const, Nat.mul_one, Int.reduceToNat, Nat.reducePow, Int.reducePow, Bool.true_and, Bool.false_and, Bool.and_false, g2, g3, g4, g9, g10, g11, g12, g13, g14, g15, g74, g75, g76, t1, t2]
    · simp only [if_true] at t2
      simp (disch := first | assumption | omega | (simp only [List.length_append]; omega)) only [go_sem, reduceCtorEq, Nat.reduceEqDiff, Nat.reduceAdd, Nat.reduceSub, Nat.reduceMul, Nat.reduceLeDiff, Int.reduceLT, Int.reduceLE, Int.reduceEq, ↓reduceIte, Int.reduceNeg, Int.reduceAdd, Int.reduceSub, Int.reduceMul, true_imp_iff, forall_const, Nat.mul_one, Int.reduceToNat, Nat.reducePow, Int.reducePow, Bool.true_and, Bool.false_and, Bool.and_false, g15, g76, ←hF]
      refine ⟨k + 1, by dsimp only; omega, Dr.lay hbb ⟨rfl, by omega, ?_, ?_, ?_, ?_, ?_, ?_, ?_, ?_, ?_, ?_, ?_, ?_, ?_⟩⟩ <;> simp (disch := first | assumption | omega | (simp only [List.length_append]; omega)) only [go_sem, reduceCtorEq, Nat.reduceEqDiff, Nat.reduceAdd, Nat.reduceSub, Nat.reduceMul, Nat.reduceLeDiff, Int.reduceLT, Int.reduceLE, Int.reduceEq, ↓reduceIte, Int.reduceNeg, Int.reduceAdd, Int.reduceSub, Int.reduceMul, true_imp_iff, forall_const, Nat.mul_one, Int.reduceToNat, Nat.reducePow, Int.reducePow, Bool.true_and, Bool.false_and, Bool.and_false, g2, g3, g4, g9, g10, g11, g12, g13, g14, g15, g74, g75, g76, t1, t2]
  · have hlt' : ¬ (k : Int) < L.length := by omega
    have hk' : k = L.length := by omega
    simp (disch := first | assumption | omega | (simp only [List.length_append]; omega)) only [go_sem, reduceCtorEq, Nat.reduceEqDiff, Nat.reduceAdd, Nat.reduceSub, Nat.reduceMul, Nat.reduceLeDiff, Int.reduceLT, Int.reduceLE, Int.reduceEq, ↓reduceIte, Int.reduceNeg, Int.reduceAdd, Int.reduceSub, Int.reduceMul, true_imp_iff, forall_const, Nat.mul_one, Int.reduceToNat, Nat.reducePow, Int.reducePow, Bool.true_and, Bool.false_and, Bool.and_false, g74, g75, g76, hlt', ←hF]
    subst hk'
    rw [take_all] at g14 g15
    exact rest _ g2 g3 g4 g9 g10 g11 g12 g13 g14 g15

set_option maxHeartbeats 1000000 in
theorem AddrRects_any (a b : Rct) (i j : Int) (hi : -9223372036854775808 ≤ i ∧ i ≤ 9223372036854775807) (hj : -9223372036854775808 ≤ j ∧ j ≤ 9223372036854775807) (σ : ASt) :
    ACalls Try.prog 7 [a.av, b.av, .int .i64 i, .int .i64 j] σ fun v _ => v = .bool true := by
  refine ACalls.mono (R := fun v σ' => v = .bool true ∧ σ' = σ) ?_ fun v _ h => h.1
  refine a7 (by simp) ?_
  obtain ⟨F, hF⟩ : ∃ F, F = ACode.wp Try.prog c7_62 := ⟨_, rfl⟩
  have hag := agood_ok a
  have hbg := agood_ok b
  have har := rgood_ok a
  have hbr := rgood_ok b
  obtain ⟨ga, hga⟩ : ∃ g, a.good = g := ⟨_, rfl⟩
  obtain ⟨gb, hgb⟩ : ∃ g, b.good = g := ⟨_, rfl⟩
  rw [hga] at hag har
  rw [hgb] at hbg hbr
  simp (disch := first | assumption | omega | (simp only [List.length_append]; omega)) only [go_sem, reduceCtorEq, Nat.reduceEqDiff, Nat.reduceAdd, Nat.reduceSub, Nat.reduceMul, Nat.reduceLeDiff, Int.reduceLT, Int.reduceLE, Int.reduceEq, ↓reduceIte, Int.reduceNeg, Int.reduceAdd, Int.reduceSub, Int.reduceMul, true_imp_iff, forall_const, Nat.mul_one, Int.reduceToNat, Nat.reducePow, Int.reducePow, Bool.true_and, Bool.false_and, Bool.and_false, rectAV, Rct.av, ←hF]
  refine boxC_by rfl fun b0 hb0 => ?_
  simp (disch := first | assumption | omega | (simp only [List.length_append]; omega)) only [go_sem, reduceCtorEq, Nat.reduceEqDiff, Nat.reduceAdd, Nat.reduceSub, Nat.reduceMul, Nat.reduceLeDiff, Int.reduceLT, Int.reduceLE, Int.reduceEq, ↓reduceIte, Int.reduceNeg, Int.reduceAdd, Int.reduceSub, Int.reduceMul, true_imp_iff, forall_const, Nat.mul_one, Int.reduceToNat, Nat.reducePow, Int.reducePow, Bool.true_and, Bool.false_and, Bool.and_false, rectAV, Rct.av, ←hF]
  refine boxC_by rfl fun b1 hb1 => ?_
  repeat (with_reducible replace hb1 := set_none hb1; obtain ⟨_, _, hb1⟩ := hb1)
  simp (disch := first | assumption | omega | (simp only [List.length_append]; omega)) only [go_sem, reduceCtorEq, Nat.reduceEqDiff, Nat.reduceAdd, Nat.reduceSub, Nat.reduceMul, Nat.reduceLeDiff, Int.reduceLT, Int.reduceLE, Int.reduceEq, ↓reduceIte, Int.reduceNeg, Int.reduceAdd, Int.reduceSub, Int.reduceMul, true_imp_iff, forall_const, Nat.mul_one, Int.reduceToNat, Nat.reducePow, Int.reducePow, Bool.true_and, Bool.false_and, Bool.and_false, rectAV, Rct.av, ←hF]
  refine allocC_by fun b2 hb2 => ?_
  repeat (with_reducible replace hb2 := set_none hb2; obtain ⟨_, _, hb2⟩ := hb2)
  simp (disch := first | assumption | omega | (simp only [List.length_append]; omega)) only [go_sem, reduceCtorEq, Nat.reduceEqDiff, Nat.reduceAdd, Nat.reduceSub, Nat.reduceMul, Nat.reduceLeDiff, Int.reduceLT, Int.reduceLE, Int.reduceEq, ↓reduceIte, Int.reduceNeg, Int.reduceAdd, Int.reduceSub, Int.reduceMul, true_imp_iff, forall_const, Nat.mul_one, Int.reduceToNat, Nat.reducePow, Int.reducePow, Bool.true_and, Bool.false_and, Bool.and_false, ←hF]
  refine allocC_by fun b3 hb3 => ?_
  repeat (with_reducible replace hb3 := set_none hb3; obtain ⟨_, _, hb3⟩ := hb3)
  simp (disch := first | assumption | omega | (simp only [List.length_append]; omega)) only [go_sem, reduceCtorEq, Nat.reduceEqDiff, Nat.reduceAdd, Nat.reduceSub, Nat.reduceMul, Nat.reduceLeDiff, Int.reduceLT, Int.reduceLE, Int.reduceEq, ↓reduceIte, Int.reduceNeg, Int.reduceAdd, Int.reduceSub, Int.reduceMul, true_imp_iff, forall_const, Nat.mul_one, Int.reduceToNat, Nat.reducePow, Int.reducePow, Bool.true_and, Bool.false_and, Bool.and_false, ←hF]
  refine aawake_ok.use ?_
  simp (disch := first | assumption | omega | (simp only [List.length_append]; omega)) only [go_sem, reduceCtorEq, Nat.reduceEqDiff, Nat.reduceAdd, Nat.reduceSub, Nat.reduceMul, Nat.reduceLeDiff, Int.reduceLT, Int.reduceLE, Int.reduceEq, ↓reduceIte, Int.reduceNeg, Int.reduceAdd, Int.reduceSub, Int.reduceMul, true_imp_iff, forall_const, Nat.mul_one, Int.reduceToNat, Nat.reducePow, Int.reducePow, Bool.true_and, Bool.false_and, Bool.and_false, ←hF]
  refine hag.use ?_
  simp (disch := first | assumption | omega | (simp only [List.length_append]; omega)) only [go_sem, reduceCtorEq, Nat.reduceEqDiff, Nat.reduceAdd, Nat.reduceSub, Nat.reduceMul, Nat.reduceLeDiff, Int.reduceLT, Int.reduceLE, Int.reduceEq, ↓reduceIte, Int.reduceNeg, Int.reduceAdd, Int.reduceSub, Int.reduceMul, true_imp_iff, forall_const, Nat.mul_one, Int.reduceToNat, Nat.reducePow, Int.reducePow, Bool.true_and, Bool.false_and, Bool.and_false, ←hF]
  refine har.use ?_
  cases ga with
  | false =>
    repeat' (first | (simp (disch := first | assumption | omega | (simp only [List.length_append]; omega)) only [go_sem, reduceCtorEq, Nat.reduceEqDiff, Nat.reduceAdd, Nat.reduceSub, Nat.reduceMul, Nat.reduceLeDiff, Int.reduceLT, Int.reduceLE, Int.reduceEq, ↓reduceIte, Int.reduceNeg, Int.reduceAdd, Int.reduceSub, Int.reduceMul, true_imp_iff, forall_const, Nat.mul_one, Int.reduceToNat, Nat.reducePow, Int.reducePow, Bool.true_and, Bool.false_and, Bool.and_false, ←hF]) | refine hbg.use ?_ | refine hbr.use ?_ | refine har.use ?_ | with_reducible refine gC_d (fun h => ?_) (fun h => ?_) | with_reducible refine gC_dn (fun h => ?_) (fun h => ?_) | with_reducible refine condC_d (fun h => ?_) (fun h => ?_) | with_reducible refine condC_n (fun h => ?_) (fun h => ?_) | with_reducible refine condC_b (fun h => ?_) (fun h => ?_) | with_reducible refine boxC_by ?_ fun b hb => ?_)
    all_goals first | exact retC_by (by repeat' (first | exact Drop.refl _ | with_reducible refine Drop.off ?_ (by assumption))) (.refl _) ⟨rfl, rfl⟩ | (cases gb <;> simp (disch := first | assumption | omega | (simp only [List.length_append]; omega)) only [go_sem, reduceCtorEq, Nat.reduceEqDiff, Nat.reduceAdd, Nat.reduceSub, Nat.reduceMul, Nat.reduceLeDiff, Int.reduceLT, Int.reduceLE, Int.reduceEq, ↓reduceIte, Int.reduceNeg, Int.reduceAdd, Int.reduceSub, Int.reduceMul, true_imp_iff, forall_const, Nat.mul_one, Int.reduceToNat, Nat.reducePow, Int.reducePow, Bool.true_and, Bool.false_and, Bool.and_false] <;> exact retC_by (by repeat' (first | exact Drop.refl _ | with_reducible refine Drop.off ?_ (by assumption))) (.refl _) ⟨rfl, rfl⟩)
  | true =>
  simp (disch := first | assumption | omega | (simp only [List.length_append]; omega)) only [go_sem, reduceCtorEq, Nat.reduceEqDiff, Nat.reduceAdd, Nat.reduceSub, Nat.reduceMul, Nat.reduceLeDiff, Int.reduceLT, Int.reduceLE, Int.reduceEq, ↓reduceIte, Int.reduceNeg, Int.reduceAdd, Int.reduceSub, Int.reduceMul, true_imp_iff, forall_const, Nat.mul_one, Int.reduceToNat, Nat.reducePow, Int.reducePow, Bool.true_and, Bool.false_and, Bool.and_false, ←hF]
  refine hbg.use ?_
  simp (disch := first | assumption | omega | (simp only [List.length_append]; omega)) only [go_sem, reduceCtorEq, Nat.reduceEqDiff, Nat.reduceAdd, Nat.reduceSub, Nat.reduceMul, Nat.reduceLeDiff, Int.reduceLT, Int.reduceLE, Int.reduceEq, ↓reduceIte, Int.reduceNeg, Int.reduceAdd, Int.reduceSub, Int.reduceMul, true_imp_iff, forall_const, Nat.mul_one, Int.reduceToNat, Nat.reducePow, Int.reducePow, Bool.true_and, Bool.false_and, Bool.and_false, ←hF]
  refine hbr.use ?_
  cases gb with
  | false =>
    repeat' (first | (simp (disch := first | assumption | omega | (simp only [List.length_append]; omega)) only [go_sem, reduceCtorEq, Nat.reduceEqDiff, Nat.reduceAdd, Nat.reduceSub, Nat.reduceMul, Nat.reduceLeDiff, Int.reduceLT, Int.reduceLE, Int.reduceEq, ↓reduceIte, Int.reduceNeg, Int.reduceAdd, Int.reduceSub, Int.reduceMul, true_imp_iff, forall_const, Nat.mul_one, Int.reduceToNat, Nat.reducePow, Int.reducePow, Bool.true_and, Bool.false_and, Bool.and_false, ←hF]) | refine hbg.use ?_ | refine hbr.use ?_ | refine har.use ?_ | with_reducible refine gC_d (fun h => ?_) (fun h => ?_) | with_reducible refine gC_dn (fun h => ?_) (fun h => ?_) | with_reducible refine condC_d (fun h => ?_) (fun h => ?_) | with_reducible refine condC_n (fun h => ?_) (fun h => ?_) | with_reducible refine condC_b (fun h => ?_) (fun h => ?_) | with_reducible refine boxC_by ?_ fun b hb => ?_)
    all_goals exact retC_by (by repeat' (first | exact Drop.refl _ | with_reducible refine Drop.off ?_ (by assumption))) (.refl _) ⟨rfl, rfl⟩
  | true =>
  simp (disch := first | assumption | omega | (simp only [List.length_append]; omega)) only [go_sem, reduceCtorEq, Nat.reduceEqDiff, Nat.reduceAdd, Nat.reduceSub, Nat.reduceMul, Nat.reduceLeDiff, Int.reduceLT, Int.reduceLE, Int.reduceEq, ↓reduceIte, Int.reduceNeg, Int.reduceAdd, Int.reduceSub, Int.reduceMul, true_imp_iff, forall_const, Nat.mul_one, Int.reduceToNat, Nat.reducePow, Int.reducePow, Bool.true_and, Bool.false_and, Bool.and_false, ←hF]
  refine har.use ?_
  simp (disch := first | assumption | omega | (simp only [List.length_append]; omega)) only [go_sem, reduceCtorEq, Nat.reduceEqDiff, Nat.reduceAdd, Nat.reduceSub, Nat.reduceMul, Nat.reduceLeDiff, Int.reduceLT, Int.reduceLE, Int.reduceEq, ↓reduceIte, Int.reduceNeg, Int.reduceAdd, Int.reduceSub, Int.reduceMul, true_imp_iff, forall_const, Nat.mul_one, Int.reduceToNat, Nat.reducePow, Int.reducePow, Bool.true_and, Bool.false_and, Bool.and_false, ←hF]
  refine hbr.use ?_
  have hx := ahas_ok hga i j hi.2 hj.2
  by_cases hin : -5000 ≤ i ∧ i ≤ 5000 ∧ -5000 ≤ j ∧ j ≤ 5000
  · obtain ⟨n1, n2, n3, n4⟩ := hin
    have m1 : ¬ (5000 < i) := by omega
    have m2 : ¬ (i < -5000) := by omega
    have m3 : ¬ (5000 < j) := by omega
    have m4 : ¬ (j < -5000) := by omega
    simp (disch := first | assumption | omega | (simp only [List.length_append]; omega)) only [go_sem, reduceCtorEq, Nat.reduceEqDiff, Nat.reduceAdd, Nat.reduceSub, Nat.reduceMul, Nat.reduceLeDiff, Int.reduceLT, Int.reduceLE, Int.reduceEq, ↓reduceIte, Int.reduceNeg, Int.reduceAdd, Int.reduceSub, Int.reduceMul, true_imp_iff, forall_const, Nat.mul_one, Int.reduceToNat, Nat.reducePow, Int.reducePow, Bool.true_and, Bool.false_and, Bool.and_false, m1, m2, m3, m4, ←hF]
    refine (meet_ok hga hgb).use ?_
    simp (disch := first | assumption | omega | (simp only [List.length_append]; omega)) only [go_sem, reduceCtorEq, Nat.reduceEqDiff, Nat.reduceAdd, Nat.reduceSub, Nat.reduceMul, Nat.reduceLeDiff, Int.reduceLT, Int.reduceLE, Int.reduceEq, ↓reduceIte, Int.reduceNeg, Int.reduceAdd, Int.reduceSub, Int.reduceMul, true_imp_iff, forall_const, Nat.mul_one, Int.reduceToNat, Nat.reducePow, Int.reducePow, Bool.true_and, Bool.false_and, Bool.and_false, rectAV, Rct.av, ←hF]
    refine allocC_by fun b4 hb4 => ?_
    repeat (with_reducible replace hb4 := set_none hb4; obtain ⟨_, _, hb4⟩ := hb4)
    simp (disch := first | assumption | omega | (simp only [List.length_append]; omega)) only [go_sem, reduceCtorEq, Nat.reduceEqDiff, Nat.reduceAdd, Nat.reduceSub, Nat.reduceMul, Nat.reduceLeDiff, Int.reduceLT, Int.reduceLE, Int.reduceEq, ↓reduceIte, Int.reduceNeg, Int.reduceAdd, Int.reduceSub, Int.reduceMul, true_imp_iff, forall_const, Nat.mul_one, Int.reduceToNat, Nat.reducePow, Int.reducePow, Bool.true_and, Bool.false_and, Bool.and_false, ←hF]
    refine (less_ok hga hgb).use ?_
    simp (disch := first | assumption | omega | (simp only [List.length_append]; omega)) only [go_sem, reduceCtorEq, Nat.reduceEqDiff, Nat.reduceAdd, Nat.reduceSub, Nat.reduceMul, Nat.reduceLeDiff, Int.reduceLT, Int.reduceLE, Int.reduceEq, ↓reduceIte, Int.reduceNeg, Int.reduceAdd, Int.reduceSub, Int.reduceMul, true_imp_iff, forall_const, Nat.mul_one, Int.reduceToNat, Nat.reducePow, Int.reducePow, Bool.true_and, Bool.false_and, Bool.and_false, ←hF]
    rw [hF]
    refine rects_loop hga hgb hi hj (b0 := b0) (b1 := b1) (b2 := b2) (b3 := b3) (b4 := b4) ?_ ?_ ?_ ?_ ?_ ?_ ?_ ?_ ?_ ?_ ?_ ?_ ?_ ?_ ?_
    iterate 10 (· simp (disch := first | assumption | omega | (simp only [List.length_append]; omega)) only [go_sem, reduceCtorEq, Nat.reduceEqDiff, Nat.reduceAdd, Nat.reduceSub, Nat.reduceMul, Nat.reduceLeDiff, Int.reduceLT, Int.reduceLE, Int.reduceEq, ↓reduceIte, Int.reduceNeg, Int.reduceAdd, Int.reduceSub, Int.reduceMul, true_imp_iff, forall_const, Nat.mul_one, Int.reduceToNat, Nat.reducePow, Int.reducePow, Bool.true_and, Bool.false_and, Bool.and_false])
    · simp only [ASt.set, *, if_true, if_false]; rfl
    · simp only [ASt.set, *, if_true, if_false]; rfl
    · simp only [ASt.set, *, if_true, if_false]; rfl
    · simp only [ASt.set, *, if_true, if_false]; rfl
    · repeat' (first | exact Drop.refl _ | with_reducible refine Drop.off ?_ (by assumption))
  · have hno : a.has i j = false := by
      cases hh : a.has i j with
      | false => rfl
      | true =>
        exfalso
        have h1 := Rct.has_iff.1 hh
        have h2 := Rct.good_iff.1 hga
        omega
    rw [hno] at hx
    repeat' (first | (simp (disch := first | assumption | omega | (simp only [List.length_append]; omega)) only [go_sem, reduceCtorEq, Nat.reduceEqDiff, Nat.reduceAdd, Nat.reduceSub, Nat.reduceMul, Nat.reduceLeDiff, Int.reduceLT, Int.reduceLE, Int.reduceEq, ↓reduceIte, Int.reduceNeg, Int.reduceAdd, Int.reduceSub, Int.reduceMul, true_imp_iff, forall_const, Nat.mul_one, Int.reduceToNat, Nat.reducePow, Int.reducePow, Bool.true_and, Bool.false_and, Bool.and_false, ←hF]) | refine hx.use ?_ | with_reducible refine gC_d (fun h => ?_) (fun h => ?_) | with_reducible refine gC_dn (fun h => ?_) (fun h => ?_) | with_reducible refine condC_d (fun h => ?_) (fun h => ?_) | with_reducible refine condC_n (fun h => ?_) (fun h => ?_) | with_reducible refine condC_b (fun h => ?_) (fun h => ?_) | with_reducible refine boxC_by ?_ fun b hb => ?_)
    all_goals first | exact retC_by (by repeat' (first | exact Drop.refl _ | with_reducible refine Drop.off ?_ (by assumption))) (.refl _) ⟨rfl, rfl⟩ | (exfalso; omega)
end Go.A
