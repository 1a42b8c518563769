/- The reader's methods, walked: spans. -/
import Derived.Test.YthkcifdjfoggeaaVf
namespace Go.A
open Go.Proofs Go.Vint
set_option maxRecDepth 100000
set_option linter.unusedSimpArgs false
set_option linter.unusedVariables false

section
variable {σ0 σ : ASt} {b c n s : Nat} {k : SK} {rb : Role} {q q' : Role}
theorem Grown.addc (hg : Grown (σ0.set b (some rb)) σ k n s) (hc : σ c = none) : Grown ((σ0.set c (some q)).set b (some rb)) (σ.set c (some q)) k n s ∧ c ≠ b ∧ σ0 c = none := by
  have hb : σ b = some rb := hg.at (ASt.set_same _ _ _)
  have hcb : c ≠ b := by rintro rfl; rw [hb] at hc; cases hc
  have h0 : σ0 c = none := by
    rcases hg with ⟨_, _, rfl⟩ | ⟨t, _, _, rfl⟩
    · rwa [ASt.set_ne hcb] at hc
    · obtain ⟨_, _, hc⟩ := set_none hc
      rwa [ASt.set_ne hcb] at hc
  refine ⟨?_, hcb, h0⟩
  rcases hg with ⟨h1, h2, rfl⟩ | ⟨t, h1, h2, rfl⟩
  · exact .inl ⟨h1, h2, set_swap (Ne.symm hcb)⟩
  · obtain ⟨h3, h4, _⟩ := set_none hc
    obtain ⟨h5, h6, h7⟩ := set_none h2
    refine .inr ⟨t, h1, ?_, ?_⟩
    · rw [ASt.set_ne h5, ASt.set_ne (Ne.symm h3)]; exact h7
    · rw [set_swap h4, set_swap (Ne.symm hcb)]
theorem Grown.rolec (h : Grown ((σ0.set c (some q)).set b (some rb)) σ k n s) (hcb : c ≠ b) : σ c = some q := h.at (by rw [ASt.set_ne hcb, ASt.set_same])
theorem Grown.updc (h : Grown ((σ0.set c (some q)).set b (some rb)) σ k n s) (hcb : c ≠ b) : Grown ((σ0.set c (some q')).set b (some rb)) (σ.set c (some q')) k n s := by
  rw [set_swap hcb] at h ⊢
  exact h.obj
theorem Grown.offc (h : Grown ((σ0.set c (some q)).set b (some rb)) σ k n s) (hcb : c ≠ b) (hc : σ0 c = none) : ∃ σ', Drop σ σ' ∧ Grown (σ0.set b (some rb)) σ' k n s := by
  rcases h with ⟨h1, h2, rfl⟩ | ⟨t, h1, h2, rfl⟩
  · refine ⟨σ0.set b (some rb), ?_, .inl ⟨h1, h2, rfl⟩⟩
    rw [set_swap hcb]
    exact Drop.set (by rw [ASt.set_ne hcb]; exact hc)
  · obtain ⟨h3, h4, h5⟩ := set_none h2
    obtain ⟨h6, h7, h8⟩ := set_none h5
    refine ⟨(σ0.set b (some rb)).set t (some (.tok (n * s))), ?_, .inr ⟨t, h1, by rw [ASt.set_ne h3]; exact h8, rfl⟩⟩
    rw [set_swap hcb, set_swap h7]
    exact Drop.set (by rw [ASt.set_ne h7, ASt.set_ne hcb]; exact hc)
theorem Grown.plus (hg : Grown σ0 σ k n s) (hc : σ c = none) : Grown (σ0.set c (some q)) (σ.set c (some q)) k n s ∧ σ0 c = none := by
  rcases hg with ⟨h1, h2, rfl⟩ | ⟨t, h1, h2, rfl⟩
  · exact ⟨.inl ⟨h1, h2, rfl⟩, hc⟩
  · obtain ⟨h3, h4, h5⟩ := set_none hc
    exact ⟨.inr ⟨t, h1, by rw [ASt.set_ne h4]; exact h2, set_swap h4⟩, h5⟩
theorem Grown.less (h : Grown (σ0.set c (some q)) σ k n s) (hc : σ0 c = none) : ∃ σ', Drop σ σ' ∧ Grown σ0 σ' k n s := by
  rcases h with ⟨h1, h2, rfl⟩ | ⟨t, h1, h2, rfl⟩
  · exact ⟨σ0, Drop.set hc, .inl ⟨h1, h2, rfl⟩⟩
  · obtain ⟨h3, h4, h5⟩ := set_none h2
    refine ⟨σ0.set t (some (.tok (n * s))), ?_, .inr ⟨t, h1, h5, rfl⟩⟩
    rw [set_swap h4]
    exact Drop.set (by rw [ASt.set_ne h4]; exact hc)
end

/-- Spans, so many more of them. -/
def spaF (s : List UInt8) : Nat → List (Int × Int) → Nat → Int → List (Int × Int) × Nat × Int
  | 0, l, p, e => (l, p, e)
  | k + 1, l, p, e => if e ≠ 0 then (l, p, e) else match l.getLast? with
    | none => spaF s k (l ++ [(((readU s p e).1 : Int), (afterP s (readU s p e).2.1 (readU s p e).2.2 (readU s p e).1).1)]) (afterP s (readU s p e).2.1 (readU s p e).2.2 (readU s p e).1).2.1 (afterP s (readU s p e).2.1 (readU s p e).2.2 (readU s p e).1).2.2
    | some x => spaF s k (l ++ [((afterP s p e x.2).1, (afterP s (afterP s p e x.2).2.1 (afterP s p e x.2).2.2 (afterP s p e x.2).1).1)]) (afterP s (afterP s p e x.2).2.1 (afterP s p e x.2).2.2 (afterP s p e x.2).1).2.1 (afterP s (afterP s p e x.2).2.1 (afterP s p e x.2).2.2 (afterP s p e x.2).1).2.2
def spansR (s : List UInt8) (p : Nat) (e : Int) (most : Nat) : List (Int × Int) × Nat × Int :=
  if (spaF s (countP s p e most).1 [] (countP s p e most).2.1 (countP s p e most).2.2).2.2 ≠ 0 then ([], (spaF s (countP s p e most).1 [] (countP s p e most).2.1 (countP s p e most).2.2).2)
  else spaF s (countP s p e most).1 [] (countP s p e most).2.1 (countP s p e most).2.2
theorem spanV_map_get {l : List (Int × Int)} {j : Nat} {x : Int × Int} (h : l[j]? = some x) : (l.map spanV)[j]? = some (.agg [.int .u64 x.1, .int .u64 x.2]) := by rw [List.getElem?_map, h]; rfl
theorem last_at' {l : List (Int × Int)} {i : Nat} (h : l.length = i + 1) : ∃ x, l.getLast? = some x ∧ l[i]? = some x := by
  have hlt : i < l.length := by omega
  refine ⟨l[i], ?_, List.getElem?_eq_getElem hlt⟩
  rw [List.getLast?_eq_getElem?, show l.length - 1 = i by omega, List.getElem?_eq_getElem hlt]

set_option maxHeartbeats 1000000 in
theorem rspans_ok (s : List UInt8) (p : Nat) (e : Int) (most : Nat) (b : Nat) (σ : ASt) (hb : σ b = rd s p e) (hs : s.length ≤ 4611686018427387904) (hp : p ≤ s.length) (hm : most ≤ 1000000) :
    ACalls Try.prog 33 [.ptr b 0, .int .i64 most] σ fun v σ' => v = spansV (spansR s p e most).1 ∧ σ' = σ.set b (rd s (spansR s p e most).2.1 (spansR s p e most).2.2) := by
  refine a33 (by simp) ?_
  obtain ⟨q, hq⟩ : ∃ q, spansR s p e most = q := ⟨_, rfl⟩
  rw [hq]
  unfold spansR at hq
  obtain ⟨c1, c2⟩ := countP_facts s p e most hp
  obtain ⟨F, hF⟩ : ∃ F, F = ACode.wp Try.prog c33_32 := ⟨_, rfl⟩
  obtain ⟨G, hG⟩ : ∃ F, F = ACode.wp Try.prog c33_15 := ⟨_, rfl⟩
  simp (disch := first | assumption | omega | (simp only [List.length_append]; omega)) only [go_sem, reduceCtorEq, Nat.reduceEqDiff, Nat.reduceAdd, Nat.reduceSub, Nat.reduceMul, Nat.reduceLeDiff, Int.reduceLT, Int.reduceLE, Int.reduceEq, ↓reduceIte, Int.reduceNeg, Int.reduceAdd, Int.reduceSub, Int.reduceMul, true_imp_iff, forall_const, Nat.mul_one, Int.reduceToNat, Nat.reducePow, Int.reducePow, Bool.true_and, Bool.false_and, Bool.and_false, ←hF, ←hG]
  refine (rcount_ok s p e most b σ hb hs hp hm).mono ?_
  rintro v σ' ⟨rfl, rfl⟩
  generalize countP s p e most = C at *
  obtain ⟨n, p1, e1⟩ := C
  dsimp only at *
  obtain ⟨r, hr⟩ : ∃ r, spaF s n [] p1 e1 = r := ⟨_, rfl⟩
  rw [hr] at hq
  have fin : ∀ (a : AFr) (k : SK) (σ' : ASt), a 0 = .ptr b 0 → a 6 = .sl k (r.1.map spanV) → Grown (σ.set b (rd s r.2.1 r.2.2)) σ' k (r.1.map spanV).length 2 →
      F (RetQ [.t 4] fun v σ' => v = spansV q.1 ∧ σ' = σ.set b (rd s q.2.1 q.2.2)) a σ' := by
    intro a k σ' h0 h6 hg
    have hb' := hg.at (x := b) (ASt.set_same _ _ _)
    rw [hF]
    by_cases he : r.2.2 = 0
    · rw [if_neg (by simp [he])] at hq
      subst hq
      simp (disch := first | assumption | omega | (simp only [List.length_append]; omega)) only [go_sem, reduceCtorEq, Nat.reduceEqDiff, Nat.reduceAdd, Nat.reduceSub, Nat.reduceMul, Nat.reduceLeDiff, Int.reduceLT, Int.reduceLE, Int.reduceEq, ↓reduceIte, Int.reduceNeg, Int.reduceAdd, Int.reduceSub, Int.reduceMul, true_imp_iff, forall_const, Nat.mul_one, Int.reduceToNat, Nat.reducePow, Int.reducePow, Bool.true_and, Bool.false_and, Bool.and_false, h0, h6, hb', rd, he]
      rw [← he]
      exact retC_by hg.drop (.sl _ _) ⟨rfl, rfl⟩
    · rw [if_pos he] at hq
      subst hq
      simp (disch := first | assumption | omega | (simp only [List.length_append]; omega)) only [go_sem, reduceCtorEq, Nat.reduceEqDiff, Nat.reduceAdd, Nat.reduceSub, Nat.reduceMul, Nat.reduceLeDiff, Int.reduceLT, Int.reduceLE, Int.reduceEq, ↓reduceIte, Int.reduceNeg, Int.reduceAdd, Int.reduceSub, Int.reduceMul, true_imp_iff, forall_const, Nat.mul_one, Int.reduceToNat, Nat.reducePow, Int.reducePow, Bool.true_and, Bool.false_and, Bool.and_false, h0, h6, hb', rd, he]
      exact retC_by hg.drop (.sl _ _) ⟨rfl, rfl⟩
  -- a round, from the span's beginning on
  have half : ∀ (Q : APost) (i : Nat) (l : List (Int × Int)) (u : Int) (p2 : Nat) (e2 : Int) (c : Nat) (k : SK) (a : AFr) (σ1 : ASt), l.length = i → i ≤ 1000000 → 0 ≤ u → u ≤ 18446744073709551615 → p2 ≤ s.length → c ≠ b → σ c = none →
      (a 0 = .ptr b 0 ∧ a 5 = .int .i64 n ∧ a 7 = .int .i64 i ∧ a 6 = .sl k (l.map spanV) ∧ a 8 = .ptr c 0) →
      Grown ((σ.set c (some (.obj [.int .u64 u, .int .u64 0]))).set b (rd s p2 e2)) σ1 k (l.map spanV).length 2 →
      (∀ (a' : AFr) (k' : SK) (σ2 : ASt), (a' 0 = .ptr b 0 ∧ a' 5 = .int .i64 n ∧ a' 7 = .int .i64 i ∧ a' 6 = .sl k' ((l ++ [(u, (afterP s p2 e2 u).1)]).map spanV)) →
        (∃ σ3, Drop σ2 σ3 ∧ Grown (σ.set b (rd s (afterP s p2 e2 u).2.1 (afterP s p2 e2 u).2.2)) σ3 k' ((l ++ [(u, (afterP s p2 e2 u).1)]).map spanV).length 2) → Q .normal a' σ2) →
      G Q a σ1 := by
    intro Q i l u p2 e2 c k a σ1 hl hi u0 u1 hp2 hcb hc0 hf hg hQ
    rw [hG]
    have hb' : σ1 b = some (.obj [.str s, .int .i64 p2, .int .i64 e2]) := hg.at (x := b) (ASt.set_same _ _ _)
    have hc' := hg.rolec hcb
    obtain ⟨f1, f2, f3⟩ := afterP_facts s p2 e2 u hp2 u0 u1
    simp (disch := first | assumption | omega | (simp only [List.length_append]; omega)) only [go_sem, reduceCtorEq, Nat.reduceEqDiff, Nat.reduceAdd, Nat.reduceSub, Nat.reduceMul, Nat.reduceLeDiff, Int.reduceLT, Int.reduceLE, Int.reduceEq, ↓reduceIte, Int.reduceNeg, Int.reduceAdd, Int.reduceSub, Int.reduceMul, true_imp_iff, forall_const, Nat.mul_one, Int.reduceToNat, Nat.reducePow, Int.reducePow, Bool.true_and, Bool.false_and, Bool.and_false, hf, hc']
    refine (rafter_ok s p2 e2 u b σ1 hb' hs hp2 u0 u1).mono ?_
    rintro v σ2 ⟨rfl, rfl⟩
    generalize afterP s p2 e2 u = R at *
    obtain ⟨t, p3, e3⟩ := R
    dsimp only at *
    have hg2 : Grown ((σ.set c (some (.obj [.int .u64 u, .int .u64 0]))).set b (rd s p3 e3)) (σ1.set b (rd s p3 e3)) k (l.map spanV).length 2 := hg.obj
    have hc2 := hg2.rolec hcb
    simp (disch := first | assumption | omega | (simp only [List.length_append]; omega)) only [go_sem, reduceCtorEq, Nat.reduceEqDiff, Nat.reduceAdd, Nat.reduceSub, Nat.reduceMul, Nat.reduceLeDiff, Int.reduceLT, Int.reduceLE, Int.reduceEq, ↓reduceIte, Int.reduceNeg, Int.reduceAdd, Int.reduceSub, Int.reduceMul, true_imp_iff, forall_const, Nat.mul_one, Int.reduceToNat, Nat.reducePow, Int.reducePow, Bool.true_and, Bool.false_and, Bool.and_false, hf, hc2]
    have hg3 := hg2.updc (q' := .obj [.int .u64 u, .int .u64 t]) hcb
    refine appC_by hg3 rfl rfl (by simp; omega) (by simp; omega) fun k' σ' hg' => ?_
    have hap : l.map spanV ++ [.agg [.int .u64 u, .int .u64 t]] = (l ++ [(u, t)]).map spanV := by simp [spanV]
    rw [hap] at hg' ⊢
    simp (disch := first | assumption | omega | (simp only [List.length_append]; omega)) only [go_sem, reduceCtorEq, Nat.reduceEqDiff, Nat.reduceAdd, Nat.reduceSub, Nat.reduceMul, Nat.reduceLeDiff, Int.reduceLT, Int.reduceLE, Int.reduceEq, ↓reduceIte, Int.reduceNeg, Int.reduceAdd, Int.reduceSub, Int.reduceMul, true_imp_iff, forall_const, Nat.mul_one, Int.reduceToNat, Nat.reducePow, Int.reducePow, Bool.true_and, Bool.false_and, Bool.and_false, hf]
    refine hQ _ k' σ' ?_ (hg'.offc hcb hc0)
    simp (disch := first | assumption | omega | (simp only [List.length_append]; omega)) only [go_sem, reduceCtorEq, Nat.reduceEqDiff, Nat.reduceAdd, Nat.reduceSub, Nat.reduceMul, Nat.reduceLeDiff, Int.reduceLT, Int.reduceLE, Int.reduceEq, ↓reduceIte, Int.reduceNeg, Int.reduceAdd, Int.reduceSub, Int.reduceMul, true_imp_iff, forall_const, Nat.mul_one, Int.reduceToNat, Nat.reducePow, Int.reducePow, Bool.true_and, Bool.false_and, Bool.and_false, hf]
  simp (disch := first | assumption | omega | (simp only [List.length_append]; omega)) only [go_sem, reduceCtorEq, Nat.reduceEqDiff, Nat.reduceAdd, Nat.reduceSub, Nat.reduceMul, Nat.reduceLeDiff, Int.reduceLT, Int.reduceLE, Int.reduceEq, ↓reduceIte, Int.reduceNeg, Int.reduceAdd, Int.reduceSub, Int.reduceMul, true_imp_iff, forall_const, Nat.mul_one, Int.reduceToNat, Nat.reducePow, Int.reducePow, Bool.true_and, Bool.false_and, Bool.and_false, ←hF, ←hG]
  refine wp_loop_by (fun (i : Nat × List (Int × Int) × Nat × Int) a σ' => (i.1 ≤ n ∧ i.2.1.length = i.1 ∧ i.2.2.1 ≤ s.length ∧ (∀ x ∈ i.2.1, 0 ≤ x.2 ∧ x.2 ≤ 18446744073709551615) ∧ spaF s (n - i.1) i.2.1 i.2.2.1 i.2.2.2 = r) ∧
      (a 0 = .ptr b 0 ∧ a 5 = .int .i64 n ∧ a 7 = .int .i64 i.1) ∧ ∃ k, a 6 = .sl k (i.2.1.map spanV) ∧ Grown (σ.set b (rd s i.2.2.1 i.2.2.2)) σ' k (i.2.1.map spanV).length 2)
    (fun i => n - i.1) (0, [], p1, e1) (Dr.now ⟨⟨Nat.zero_le _, rfl, c2, by simp, hr⟩, ?_, .full, ?_, .inl ⟨rfl, rfl, rfl⟩⟩) ?_
  · simp (disch := first | assumption | omega | (simp only [List.length_append]; omega)) only [go_sem, reduceCtorEq, Nat.reduceEqDiff, Nat.reduceAdd, Nat.reduceSub, Nat.reduceMul, Nat.reduceLeDiff, Int.reduceLT, Int.reduceLE, Int.reduceEq, ↓reduceIte, Int.reduceNeg, Int.reduceAdd, Int.reduceSub, Int.reduceMul, true_imp_iff, forall_const, Nat.mul_one, Int.reduceToNat, Nat.reducePow, Int.reducePow, Bool.true_and, Bool.false_and, Bool.and_false]
  · simp (disch := first | assumption | omega | (simp only [List.length_append]; omega)) only [go_sem, reduceCtorEq, Nat.reduceEqDiff, Nat.reduceAdd, Nat.reduceSub, Nat.reduceMul, Nat.reduceLeDiff, Int.reduceLT, Int.reduceLE, Int.reduceEq, ↓reduceIte, Int.reduceNeg, Int.reduceAdd, Int.reduceSub, Int.reduceMul, true_imp_iff, forall_const, Nat.mul_one, Int.reduceToNat, Nat.reducePow, Int.reducePow, Bool.true_and, Bool.false_and, Bool.and_false]
  rintro ⟨i, l, p2, e2⟩ a σ1 ⟨⟨hi, hl, hp2, hbd, hri⟩, hf, k, h6, hg⟩
  dsimp only at hi hl hp2 hbd hri hf h6 hg
  have hb' : σ1 b = some (.obj [.str s, .int .i64 p2, .int .i64 e2]) := hg.at (x := b) (ASt.set_same _ _ _)
  by_cases hin : i < n
  · have hin' : (i : Int) < n := by omega
    by_cases he : e2 = 0
    · subst he
      rw [show n - i = (n - (i + 1)) + 1 by omega, spaF, if_neg (by simp)] at hri
      by_cases hi0 : i = 0
      · subst hi0
        obtain rfl : l = [] := List.eq_nil_of_length_eq_zero hl
        have hz : ((0 : Nat) : Int) = 0 := rfl
        obtain ⟨f1, f2, f3, f4⟩ := readU_facts s p2 0 hp2
        simp only [List.getLast?_nil] at hri
        simp (disch := first | assumption | omega | (simp only [List.length_append]; omega)) only [go_sem, reduceCtorEq, Nat.reduceEqDiff, Nat.reduceAdd, Nat.reduceSub, Nat.reduceMul, Nat.reduceLeDiff, Int.reduceLT, Int.reduceLE, Int.reduceEq, ↓reduceIte, Int.reduceNeg, Int.reduceAdd, Int.reduceSub, Int.reduceMul, true_imp_iff, forall_const, Nat.mul_one, Int.reduceToNat, Nat.reducePow, Int.reducePow, Bool.true_and, Bool.false_and, Bool.and_false, hf, h6, hb', hin', hz, ←hF, ←hG]
        refine allocC_by fun c hc => ?_
        obtain ⟨hga, hcb, hc0⟩ := hg.addc hc (q := .obj [.int .u64 0, .int .u64 0])
        have hba := hga.at (x := b) (ASt.set_same _ _ _)
        simp (disch := first | assumption | omega | (simp only [List.length_append]; omega)) only [go_sem, reduceCtorEq, Nat.reduceEqDiff, Nat.reduceAdd, Nat.reduceSub, Nat.reduceMul, Nat.reduceLeDiff, Int.reduceLT, Int.reduceLE, Int.reduceEq, ↓reduceIte, Int.reduceNeg, Int.reduceAdd, Int.reduceSub, Int.reduceMul, true_imp_iff, forall_const, Nat.mul_one, Int.reduceToNat, Nat.reducePow, Int.reducePow, Bool.true_and, Bool.false_and, Bool.and_false, hf, hz, ←hF, ←hG]
        refine (ruint_ok s p2 0 b _ hba hs hp2).mono ?_
        rintro v σ2 ⟨rfl, rfl⟩
        generalize readU s p2 0 = R at *
        obtain ⟨u, p3, e3⟩ := R
        dsimp only at *
        have hg2 : Grown ((σ.set c (some (.obj [.int .u64 0, .int .u64 0]))).set b (rd s p3 e3)) ((σ1.set c (some (.obj [.int .u64 0, .int .u64 0]))).set b (rd s p3 e3)) k (([] : List (Int × Int)).map spanV).length 2 := hga.obj
        have hc2 := hg2.rolec hcb
        simp (disch := first | assumption | omega | (simp only [List.length_append]; omega)) only [go_sem, reduceCtorEq, Nat.reduceEqDiff, Nat.reduceAdd, Nat.reduceSub, Nat.reduceMul, Nat.reduceLeDiff, Int.reduceLT, Int.reduceLE, Int.reduceEq, ↓reduceIte, Int.reduceNeg, Int.reduceAdd, Int.reduceSub, Int.reduceMul, true_imp_iff, forall_const, Nat.mul_one, Int.reduceToNat, Nat.reducePow, Int.reducePow, Bool.true_and, Bool.false_and, Bool.and_false, hf, hcb, ←hF, ←hG]
        have hg3 := hg2.updc (q' := .obj [.int .u64 u, .int .u64 0]) hcb
        refine half _ 0 [] u p3 e3 c k _ _ rfl (by omega) (by omega) (by omega) f2 hcb hc0 ?_ hg3 ?_
        · simp (disch := first | assumption | omega | (simp only [List.length_append]; omega)) only [go_sem, reduceCtorEq, Nat.reduceEqDiff, Nat.reduceAdd, Nat.reduceSub, Nat.reduceMul, Nat.reduceLeDiff, Int.reduceLT, Int.reduceLE, Int.reduceEq, ↓reduceIte, Int.reduceNeg, Int.reduceAdd, Int.reduceSub, Int.reduceMul, true_imp_iff, forall_const, Nat.mul_one, Int.reduceToNat, Nat.reducePow, Int.reducePow, Bool.true_and, Bool.false_and, Bool.and_false, hf, h6]
        · intro a' k' σ3 hf' hg'
          simp (disch := first | assumption | omega | (simp only [List.length_append]; omega)) only [go_sem, reduceCtorEq, Nat.reduceEqDiff, Nat.reduceAdd, Nat.reduceSub, Nat.reduceMul, Nat.reduceLeDiff, Int.reduceLT, Int.reduceLE, Int.reduceEq, ↓reduceIte, Int.reduceNeg, Int.reduceAdd, Int.reduceSub, Int.reduceMul, true_imp_iff, forall_const, Nat.mul_one, Int.reduceToNat, Nat.reducePow, Int.reducePow, Bool.true_and, Bool.false_and, Bool.and_false, hf', ←hF, ←hG]
          obtain ⟨σ4, hd, hg4⟩ := hg'
          obtain ⟨a1, a2, a3⟩ := afterP_facts s p3 e3 u f2 (by omega) (by omega)
          refine ⟨(0 + 1, [((u : Int), (afterP s p3 e3 u).1)], (afterP s p3 e3 u).2.1, (afterP s p3 e3 u).2.2), by dsimp only; omega, Dr.drop hd ⟨⟨by dsimp only; omega, rfl, a3, by simp; omega, hri⟩, ?_, k', ?_, hg4⟩⟩
          · simp (disch := first | assumption | omega | (simp only [List.length_append]; omega)) only [go_sem, reduceCtorEq, Nat.reduceEqDiff, Nat.reduceAdd, Nat.reduceSub, Nat.reduceMul, Nat.reduceLeDiff, Int.reduceLT, Int.reduceLE, Int.reduceEq, ↓reduceIte, Int.reduceNeg, Int.reduceAdd, Int.reduceSub, Int.reduceMul, true_imp_iff, forall_const, Nat.mul_one, Int.reduceToNat, Nat.reducePow, Int.reducePow, Bool.true_and, Bool.false_and, Bool.and_false, hf']
          · simp (disch := first | assumption | omega | (simp only [List.length_append]; omega)) only [go_sem, reduceCtorEq, Nat.reduceEqDiff, Nat.reduceAdd, Nat.reduceSub, Nat.reduceMul, Nat.reduceLeDiff, Int.reduceLT, Int.reduceLE, Int.reduceEq, ↓reduceIte, Int.reduceNeg, Int.reduceAdd, Int.reduceSub, Int.reduceMul, true_imp_iff, forall_const, Nat.mul_one, Int.reduceToNat, Nat.reducePow, Int.reducePow, Bool.true_and, Bool.false_and, Bool.and_false, hf']
      · obtain ⟨j, hj⟩ : ∃ j, i = j + 1 := ⟨i - 1, by omega⟩
        obtain ⟨x, hx1, hx2⟩ := last_at' (hl.trans hj)
        simp only [hx1] at hri
        obtain ⟨x0, x1⟩ := hbd x (List.mem_of_getElem? hx2)
        have hnz : ¬ (i : Int) = 0 := by omega
        have hsub : (i : Int) - 1 = j := by omega
        have hmapj := spanV_map_get hx2
        obtain ⟨f1, f2, f3⟩ := afterP_facts s p2 0 x.2 hp2 x0 x1
        simp (disch := first | assumption | omega | (simp only [List.length_append]; omega)) only [go_sem, reduceCtorEq, Nat.reduceEqDiff, Nat.reduceAdd, Nat.reduceSub, Nat.reduceMul, Nat.reduceLeDiff, Int.reduceLT, Int.reduceLE, Int.reduceEq, ↓reduceIte, Int.reduceNeg, Int.reduceAdd, Int.reduceSub, Int.reduceMul, true_imp_iff, forall_const, Nat.mul_one, Int.reduceToNat, Nat.reducePow, Int.reducePow, Bool.true_and, Bool.false_and, Bool.and_false, hf, h6, hb', hin', hnz, hsub, ←hF, ←hG]
        refine allocC_by fun c hc => ?_
        obtain ⟨hga, hcb, hc0⟩ := hg.addc hc (q := .obj [.int .u64 0, .int .u64 0])
        have hba := hga.at (x := b) (ASt.set_same _ _ _)
        simp (disch := first | assumption | omega | (simp only [List.length_append]; omega)) only [go_sem, reduceCtorEq, Nat.reduceEqDiff, Nat.reduceAdd, Nat.reduceSub, Nat.reduceMul, Nat.reduceLeDiff, Int.reduceLT, Int.reduceLE, Int.reduceEq, ↓reduceIte, Int.reduceNeg, Int.reduceAdd, Int.reduceSub, Int.reduceMul, true_imp_iff, forall_const, Nat.mul_one, Int.reduceToNat, Nat.reducePow, Int.reducePow, Bool.true_and, Bool.false_and, Bool.and_false, hf, h6, hnz, hsub, hmapj, ←hF, ←hG]
        refine (rafter_ok s p2 0 x.2 b _ hba hs hp2 x0 x1).mono ?_
        rintro v σ2 ⟨rfl, rfl⟩
        generalize afterP s p2 0 x.2 = R at *
        obtain ⟨u, p3, e3⟩ := R
        dsimp only at *
        have hg2 : Grown ((σ.set c (some (.obj [.int .u64 0, .int .u64 0]))).set b (rd s p3 e3)) ((σ1.set c (some (.obj [.int .u64 0, .int .u64 0]))).set b (rd s p3 e3)) k (l.map spanV).length 2 := hga.obj
        have hc2 := hg2.rolec hcb
        simp (disch := first | assumption | omega | (simp only [List.length_append]; omega)) only [go_sem, reduceCtorEq, Nat.reduceEqDiff, Nat.reduceAdd, Nat.reduceSub, Nat.reduceMul, Nat.reduceLeDiff, Int.reduceLT, Int.reduceLE, Int.reduceEq, ↓reduceIte, Int.reduceNeg, Int.reduceAdd, Int.reduceSub, Int.reduceMul, true_imp_iff, forall_const, Nat.mul_one, Int.reduceToNat, Nat.reducePow, Int.reducePow, Bool.true_and, Bool.false_and, Bool.and_false, hf, h6, hcb, ←hF, ←hG]
        have hg3 := hg2.updc (q' := .obj [.int .u64 u, .int .u64 0]) hcb
        refine half _ i l u p3 e3 c k _ _ hl (by omega) (by omega) (by omega) f3 hcb hc0 ?_ hg3 ?_
        · simp (disch := first | assumption | omega | (simp only [List.length_append]; omega)) only [go_sem, reduceCtorEq, Nat.reduceEqDiff, Nat.reduceAdd, Nat.reduceSub, Nat.reduceMul, Nat.reduceLeDiff, Int.reduceLT, Int.reduceLE, Int.reduceEq, ↓reduceIte, Int.reduceNeg, Int.reduceAdd, Int.reduceSub, Int.reduceMul, true_imp_iff, forall_const, Nat.mul_one, Int.reduceToNat, Nat.reducePow, Int.reducePow, Bool.true_and, Bool.false_and, Bool.and_false, hf, h6]
        · intro a' k' σ3 hf' hg'
          simp (disch := first | assumption | omega | (simp only [List.length_append]; omega)) only [go_sem, reduceCtorEq, Nat.reduceEqDiff, Nat.reduceAdd, Nat.reduceSub, Nat.reduceMul, Nat.reduceLeDiff, Int.reduceLT, Int.reduceLE, Int.reduceEq, ↓reduceIte, Int.reduceNeg, Int.reduceAdd, Int.reduceSub, Int.reduceMul, true_imp_iff, forall_const, Nat.mul_one, Int.reduceToNat, Nat.reducePow, Int.reducePow, Bool.true_and, Bool.false_and, Bool.and_false, hf', ←hF, ←hG]
          obtain ⟨σ4, hd, hg4⟩ := hg'
          obtain ⟨a1, a2, a3⟩ := afterP_facts s p3 e3 u f3 (by omega) (by omega)
          refine ⟨(i + 1, l ++ [(u, (afterP s p3 e3 u).1)], (afterP s p3 e3 u).2.1, (afterP s p3 e3 u).2.2), by dsimp only; omega, Dr.drop hd ⟨⟨by dsimp only; omega, by simp [hl], a3, ?_, hri⟩, ?_, k', ?_, by simpa using hg4⟩⟩
          · intro y hy
            rcases List.mem_append.1 hy with hy | hy
            · exact hbd y hy
            · simp at hy; subst hy; exact ⟨a1, a2⟩
          · simp (disch := first | assumption | omega | (simp only [List.length_append]; omega)) only [go_sem, reduceCtorEq, Nat.reduceEqDiff, Nat.reduceAdd, Nat.reduceSub, Nat.reduceMul, Nat.reduceLeDiff, Int.reduceLT, Int.reduceLE, Int.reduceEq, ↓reduceIte, Int.reduceNeg, Int.reduceAdd, Int.reduceSub, Int.reduceMul, true_imp_iff, forall_const, Nat.mul_one, Int.reduceToNat, Nat.reducePow, Int.reducePow, Bool.true_and, Bool.false_and, Bool.and_false, hf']
          · simp (disch := first | assumption | omega | (simp only [List.length_append]; omega)) only [go_sem, reduceCtorEq, Nat.reduceEqDiff, Nat.reduceAdd, Nat.reduceSub, Nat.reduceMul, Nat.reduceLeDiff, Int.reduceLT, Int.reduceLE, Int.reduceEq, ↓reduceIte, Int.reduceNeg, Int.reduceAdd, Int.reduceSub, Int.reduceMul, true_imp_iff, forall_const, Nat.mul_one, Int.reduceToNat, Nat.reducePow, Int.reducePow, Bool.true_and, Bool.false_and, Bool.and_false, hf']
    · have hri' : (l, p2, e2) = r := by
        rw [show n - i = (n - (i + 1)) + 1 by omega, spaF, if_pos he] at hri
        exact hri
      subst hri'
      simp (disch := first | assumption | omega | (simp only [List.length_append]; omega)) only [go_sem, reduceCtorEq, Nat.reduceEqDiff, Nat.reduceAdd, Nat.reduceSub, Nat.reduceMul, Nat.reduceLeDiff, Int.reduceLT, Int.reduceLE, Int.reduceEq, ↓reduceIte, Int.reduceNeg, Int.reduceAdd, Int.reduceSub, Int.reduceMul, true_imp_iff, forall_const, Nat.mul_one, Int.reduceToNat, Nat.reducePow, Int.reducePow, Bool.true_and, Bool.false_and, Bool.and_false, hf, h6, hb', hin', he, ←hF, ←hG]
      exact fin _ k σ1 (by simp (disch := first | assumption | omega | (simp only [List.length_append]; omega)) only [go_sem, reduceCtorEq, Nat.reduceEqDiff, Nat.reduceAdd, Nat.reduceSub, Nat.reduceMul, Nat.reduceLeDiff, Int.reduceLT, Int.reduceLE, Int.reduceEq, ↓reduceIte, Int.reduceNeg, Int.reduceAdd, Int.reduceSub, Int.reduceMul, true_imp_iff, forall_const, Nat.mul_one, Int.reduceToNat, Nat.reducePow, Int.reducePow, Bool.true_and, Bool.false_and, Bool.and_false, hf]) (by simp (disch := first | assumption | omega | (simp only [List.length_append]; omega)) only [go_sem, reduceCtorEq, Nat.reduceEqDiff, Nat.reduceAdd, Nat.reduceSub, Nat.reduceMul, Nat.reduceLeDiff, Int.reduceLT, Int.reduceLE, Int.reduceEq, ↓reduceIte, Int.reduceNeg, Int.reduceAdd, Int.reduceSub, Int.reduceMul, true_imp_iff, forall_const, Nat.mul_one, Int.reduceToNat, Nat.reducePow, Int.reducePow, Bool.true_and, Bool.false_and, Bool.and_false, h6]) hg
  · have hin' : ¬ (i : Int) < n := by omega
    have hri' : (l, p2, e2) = r := by
      rw [show n - i = 0 by omega, spaF] at hri
      exact hri
    subst hri'
    simp (disch := first | assumption | omega | (simp only [List.length_append]; omega)) only [go_sem, reduceCtorEq, Nat.reduceEqDiff, Nat.reduceAdd, Nat.reduceSub, Nat.reduceMul, Nat.reduceLeDiff, Int.reduceLT, Int.reduceLE, Int.reduceEq, ↓reduceIte, Int.reduceNeg, Int.reduceAdd, Int.reduceSub, Int.reduceMul, true_imp_iff, forall_const, Nat.mul_one, Int.reduceToNat, Nat.reducePow, Int.reducePow, Bool.true_and, Bool.false_and, Bool.and_false, hf, h6, hb', hin', ←hF, ←hG]
    exact fin _ k σ1 (by simp (disch := first | assumption | omega | (simp only [List.length_append]; omega)) only [go_sem, reduceCtorEq, Nat.reduceEqDiff, Nat.reduceAdd, Nat.reduceSub, Nat.reduceMul, Nat.reduceLeDiff, Int.reduceLT, Int.reduceLE, Int.reduceEq, ↓reduceIte, Int.reduceNeg, Int.reduceAdd, Int.reduceSub, Int.reduceMul, true_imp_iff, forall_const, Nat.mul_one, Int.reduceToNat, Nat.reducePow, Int.reducePow, Bool.true_and, Bool.false_and, Bool.and_false, hf]) (by simp (disch := first | assumption | omega | (simp only [List.length_append]; omega)) only [go_sem, reduceCtorEq, Nat.reduceEqDiff, Nat.reduceAdd, Nat.reduceSub, Nat.reduceMul, Nat.reduceLeDiff, Int.reduceLT, Int.reduceLE, Int.reduceEq, ↓reduceIte, Int.reduceNeg, Int.reduceAdd, Int.reduceSub, Int.reduceMul, true_imp_iff, forall_const, Nat.mul_one, Int.reduceToNat, Nat.reducePow, Int.reducePow, Bool.true_and, Bool.false_and, Bool.and_false, h6]) hg
end Go.A
