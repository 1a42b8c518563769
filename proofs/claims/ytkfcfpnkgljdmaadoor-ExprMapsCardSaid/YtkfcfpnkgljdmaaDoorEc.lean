/- A tree's text, sizes, walked. -/
import Derived.Test.YtkfcfpnkgljdmaaDoorEb
import Derived.Test.YtkfcfpnkgljdmaaDoorCodeEc
namespace Go.A
open Go.Proofs Go.Lib
set_option maxRecDepth 100000
set_option linter.unusedSimpArgs false
set_option linter.unusedVariables false

theorem failure_ok (op n : Int) (s : List UInt8) (a b : Ref) (kids : List Nd) (hn : n.natAbs ≤ 999999999999999999) : Pure Tryd.prog 27 [(Nd.mk op n s a b kids).av] (.str (failT op n)) := by
  intro σ
  have hW := whole_ok hn
  have hE := tenames_ok
  obtain ⟨q, hq⟩ : ∃ q, failT op n = q := ⟨_, rfl⟩
  rw [hq]
  unfold failT at hq
  rw [Nd.av_cs]
  generalize n.tdiv 10000 = i at *
  refine a27 (by simp) ?_
  simp (disch := first | assumption | omega | (simp only [List.length_append, List.length_cons, List.length_nil]; omega)) only [go_sem, reduceCtorEq, Nat.reduceEqDiff, Nat.reduceAdd, Nat.reduceSub, Nat.reduceMul, Nat.reduceLeDiff, Int.reduceLT, Int.reduceLE, Int.reduceEq, ↓reduceIte, Int.reduceNeg, Int.reduceAdd, Int.reduceSub, Int.reduceMul, true_imp_iff, forall_const, Nat.mul_one, Int.reduceToNat, Nat.reducePow, Int.reducePow, Bool.true_and, Bool.false_and, Bool.and_false]
  refine boxC_by rfl fun c hc => ?_
  simp (disch := first | assumption | omega | (simp only [List.length_append, List.length_cons, List.length_nil]; omega)) only [go_sem, reduceCtorEq, Nat.reduceEqDiff, Nat.reduceAdd, Nat.reduceSub, Nat.reduceMul, Nat.reduceLeDiff, Int.reduceLT, Int.reduceLE, Int.reduceEq, ↓reduceIte, Int.reduceNeg, Int.reduceAdd, Int.reduceSub, Int.reduceMul, true_imp_iff, forall_const, Nat.mul_one, Int.reduceToNat, Nat.reducePow, Int.reducePow, Bool.true_and, Bool.false_and, Bool.and_false]
  refine hW.use ?_
  by_cases h4 : op = 4
  · by_cases h2 : i < 1
    · rw [if_pos (.inr (.inl h2))] at hq
      subst hq
      simp (disch := first | assumption | omega | (simp only [List.length_append, List.length_cons, List.length_nil]; omega)) only [go_sem, reduceCtorEq, Nat.reduceEqDiff, Nat.reduceAdd, Nat.reduceSub, Nat.reduceMul, Nat.reduceLeDiff, Int.reduceLT, Int.reduceLE, Int.reduceEq, ↓reduceIte, Int.reduceNeg, Int.reduceAdd, Int.reduceSub, Int.reduceMul, true_imp_iff, forall_const, Nat.mul_one, Int.reduceToNat, Nat.reducePow, Int.reducePow, Bool.true_and, Bool.false_and, Bool.and_false, h4, h2]
      exact retC_by (by repeat' (first | exact Drop.refl _ | with_reducible refine Drop.off ?_ (by assumption))) (.refl _) ⟨rfl, rfl⟩
    · by_cases h3 : 7 < i
      · rw [if_pos (.inr (.inr h3))] at hq
        subst hq
        simp (disch := first | assumption | omega | (simp only [List.length_append, List.length_cons, List.length_nil]; omega)) only [go_sem, reduceCtorEq, Nat.reduceEqDiff, Nat.reduceAdd, Nat.reduceSub, Nat.reduceMul, Nat.reduceLeDiff, Int.reduceLT, Int.reduceLE, Int.reduceEq, ↓reduceIte, Int.reduceNeg, Int.reduceAdd, Int.reduceSub, Int.reduceMul, true_imp_iff, forall_const, Nat.mul_one, Int.reduceToNat, Nat.reducePow, Int.reducePow, Bool.true_and, Bool.false_and, Bool.and_false, h4, h2]
        refine hE.use ?_
        unfold errL
        simp (disch := first | assumption | omega | (simp only [List.length_append, List.length_cons, List.length_nil]; omega)) only [go_sem, reduceCtorEq, Nat.reduceEqDiff, Nat.reduceAdd, Nat.reduceSub, Nat.reduceMul, Nat.reduceLeDiff, Int.reduceLT, Int.reduceLE, Int.reduceEq, ↓reduceIte, Int.reduceNeg, Int.reduceAdd, Int.reduceSub, Int.reduceMul, true_imp_iff, forall_const, Nat.mul_one, Int.reduceToNat, Nat.reducePow, Int.reducePow, Bool.true_and, Bool.false_and, Bool.and_false, h3]
        exact retC_by (by repeat' (first | exact Drop.refl _ | with_reducible refine Drop.off ?_ (by assumption))) (.refl _) ⟨rfl, rfl⟩
      · rw [if_neg (by omega)] at hq
        have hc : i = 1 ∨ i = 2 ∨ i = 3 ∨ i = 4 ∨ i = 5 ∨ i = 6 ∨ i = 7 := by omega
        subst hq
        rcases hc with rfl | rfl | rfl | rfl | rfl | rfl | rfl
        all_goals
          simp (disch := first | assumption | omega | (simp only [List.length_append, List.length_cons, List.length_nil]; omega)) only [go_sem, reduceCtorEq, Nat.reduceEqDiff, Nat.reduceAdd, Nat.reduceSub, Nat.reduceMul, Nat.reduceLeDiff, Int.reduceLT, Int.reduceLE, Int.reduceEq, ↓reduceIte, Int.reduceNeg, Int.reduceAdd, Int.reduceSub, Int.reduceMul, true_imp_iff, forall_const, Nat.mul_one, Int.reduceToNat, Nat.reducePow, Int.reducePow, Bool.true_and, Bool.false_and, Bool.and_false, h4]
          refine hE.use ?_
          unfold errL
          simp (disch := first | assumption | omega | (simp only [List.length_append, List.length_cons, List.length_nil]; omega)) only [go_sem, reduceCtorEq, Nat.reduceEqDiff, Nat.reduceAdd, Nat.reduceSub, Nat.reduceMul, Nat.reduceLeDiff, Int.reduceLT, Int.reduceLE, Int.reduceEq, ↓reduceIte, Int.reduceNeg, Int.reduceAdd, Int.reduceSub, Int.reduceMul, true_imp_iff, forall_const, Nat.mul_one, Int.reduceToNat, Nat.reducePow, Int.reducePow, Bool.true_and, Bool.false_and, Bool.and_false, h4]
          refine hE.use ?_
          unfold errL
          simp (disch := first | assumption | omega | (simp only [List.length_append, List.length_cons, List.length_nil]; omega)) only [go_sem, reduceCtorEq, Nat.reduceEqDiff, Nat.reduceAdd, Nat.reduceSub, Nat.reduceMul, Nat.reduceLeDiff, Int.reduceLT, Int.reduceLE, Int.reduceEq, ↓reduceIte, Int.reduceNeg, Int.reduceAdd, Int.reduceSub, Int.reduceMul, true_imp_iff, forall_const, Nat.mul_one, Int.reduceToNat, Nat.reducePow, Int.reducePow, Bool.true_and, Bool.false_and, Bool.and_false]
          exact retC_by (by repeat' (first | exact Drop.refl _ | with_reducible refine Drop.off ?_ (by assumption))) (.refl _) ⟨rfl, rfl⟩
  · rw [if_pos (.inl h4)] at hq
    subst hq
    simp (disch := first | assumption | omega | (simp only [List.length_append, List.length_cons, List.length_nil]; omega)) only [go_sem, reduceCtorEq, Nat.reduceEqDiff, Nat.reduceAdd, Nat.reduceSub, Nat.reduceMul, Nat.reduceLeDiff, Int.reduceLT, Int.reduceLE, Int.reduceEq, ↓reduceIte, Int.reduceNeg, Int.reduceAdd, Int.reduceSub, Int.reduceMul, true_imp_iff, forall_const, Nat.mul_one, Int.reduceToNat, Nat.reducePow, Int.reducePow, Bool.true_and, Bool.false_and, Bool.and_false, h4]
    exact retC_by (by repeat' (first | exact Drop.refl _ | with_reducible refine Drop.off ?_ (by assumption))) (.refl _) ⟨rfl, rfl⟩

theorem sizes_take {x : Nd} : ∀ {l : List Nd} {i : Nat}, l[i]? = some x → Nd.sizes (l.take (i + 1)) = Nd.sizes (l.take i) + x.size
  | [], i, h => by simp at h
  | y :: l, 0, h => by simp at h; subst h; simp [Nd.sizes]
  | y :: l, i + 1, h => by
    simp only [List.getElem?_cons_succ] at h
    rw [List.take_succ_cons, List.take_succ_cons, Nd.sizes, Nd.sizes, sizes_take h]
    omega
theorem sizes_le : ∀ (l : List Nd) (i : Nat), Nd.sizes (l.take i) ≤ Nd.sizes l
  | [], i => by simp [Nd.sizes]
  | y :: l, 0 => by simp [Nd.sizes]
  | y :: l, i + 1 => by rw [List.take_succ_cons, Nd.sizes, Nd.sizes]; have := sizes_le l i; omega
theorem sizes_len : ∀ l : List Nd, l.length ≤ Nd.sizes l
  | [] => by simp
  | x :: l => by have := x.size_pos; have := sizes_len l; rw [Nd.sizes, List.length_cons]; omega
theorem depths_take {x : Nd} : ∀ {l : List Nd} {i : Nat}, l[i]? = some x → Nd.depths (l.take (i + 1)) = max (Nd.depths (l.take i)) x.depth
  | [], i, h => by simp at h
  | y :: l, 0, h => by simp at h; subst h; simp [Nd.depths]
  | y :: l, i + 1, h => by
    simp only [List.getElem?_cons_succ] at h
    rw [List.take_succ_cons, List.take_succ_cons, Nd.depths, Nd.depths, depths_take h]
    omega
theorem depths_le : ∀ (l : List Nd), Nd.depths l ≤ Nd.sizes l
  | [] => by simp [Nd.depths]
  | y :: l => by rw [Nd.depths, Nd.sizes]; have := depths_le l; have := y.depth_le_size; omega
theorem depths_take_le : ∀ (l : List Nd) (i : Nat), Nd.depths (l.take i) ≤ Nd.depths l
  | [], i => by simp [Nd.depths]
  | y :: l, 0 => by simp [Nd.depths]
  | y :: l, i + 1 => by rw [List.take_succ_cons, Nd.depths, Nd.depths]; have := depths_take_le l i; omega
/-- How many nodes: walked. -/
theorem size_le_ok : ∀ (k : Nat) (n : Nd), n.size ≤ k → n.size ≤ 1000000000 → Pure Tryd.prog 17 [n.av] (.int .i64 n.size)
  | 0, n, hk, _ => by have := n.size_pos; omega
  | k + 1, n, hk, hbig => by
    intro σ
    have ih := size_le_ok k
    obtain ⟨op, m, s, a, b, kids⟩ := n
    rw [Nd.size] at hk hbig ⊢
    rw [Nd.av_cs]
    have hlen := sizes_len kids
    refine a17 (by simp) ?_
    simp (disch := first | assumption | omega | (simp only [List.length_append, List.length_cons, List.length_nil]; omega)) only [go_sem, reduceCtorEq, Nat.reduceEqDiff, Nat.reduceAdd, Nat.reduceSub, Nat.reduceMul, Nat.reduceLeDiff, Int.reduceLT, Int.reduceLE, Int.reduceEq, ↓reduceIte, Int.reduceNeg, Int.reduceAdd, Int.reduceSub, Int.reduceMul, true_imp_iff, forall_const, Nat.mul_one, Int.reduceToNat, Nat.reducePow, Int.reducePow, Bool.true_and, Bool.false_and, Bool.and_false]
    refine boxC_by rfl fun c hc => ?_
    simp (disch := first | assumption | omega | (simp only [List.length_append, List.length_cons, List.length_nil]; omega)) only [go_sem, reduceCtorEq, Nat.reduceEqDiff, Nat.reduceAdd, Nat.reduceSub, Nat.reduceMul, Nat.reduceLeDiff, Int.reduceLT, Int.reduceLE, Int.reduceEq, ↓reduceIte, Int.reduceNeg, Int.reduceAdd, Int.reduceSub, Int.reduceMul, true_imp_iff, forall_const, Nat.mul_one, Int.reduceToNat, Nat.reducePow, Int.reducePow, Bool.true_and, Bool.false_and, Bool.and_false]
    refine wp_loop_by (fun (i : Nat) a1 s2 => i ≤ kids.length ∧ (a1 3 = .int .i64 (1 + (Nd.sizes (kids.take i) : Nat)) ∧ a1 7 = .sl .shr (kids.map Nd.av) ∧ a1 8 = .int .i64 kids.length ∧ a1 9 = .int .i64 i) ∧ s2 = σ) (fun i => kids.length - i) 0 (Dr.drop (Drop.set hc) ⟨Nat.zero_le _, ?_, rfl⟩) ?_
    · simp only [List.take_zero, Nd.sizes]
      simp (disch := first | assumption | omega | (simp only [List.length_append, List.length_cons, List.length_nil]; omega)) only [go_sem, reduceCtorEq, Nat.reduceEqDiff, Nat.reduceAdd, Nat.reduceSub, Nat.reduceMul, Nat.reduceLeDiff, Int.reduceLT, Int.reduceLE, Int.reduceEq, ↓reduceIte, Int.reduceNeg, Int.reduceAdd, Int.reduceSub, Int.reduceMul, true_imp_iff, forall_const, Nat.mul_one, Int.reduceToNat, Nat.reducePow, Int.reducePow, Bool.true_and, Bool.false_and, Bool.and_false]
    rintro i a1 s2 ⟨hi, hf, rfl⟩
    have hle := sizes_le kids i
    by_cases hlt : i < kids.length
    · have hlt' : (i : Int) < kids.length := by omega
      have hx : kids[i]? = some (kids[i]'hlt) := List.getElem?_eq_getElem hlt
      obtain ⟨x, hxe⟩ : ∃ x, kids[i]'hlt = x := ⟨_, rfl⟩
      rw [hxe] at hx
      have hmx := Nd.get hx
      have hst := sizes_take hx
      have hle2 := sizes_le kids (i + 1)
      have hxs := ih x (by omega) (by omega)
      obtain ⟨xo, xm, xs, xa, xb, xk⟩ := x
      rw [Nd.av_cs] at hmx hxs
      generalize (Nd.mk xo xm xs xa xb xk).size = z at *
      have e : (1 + ((Nd.sizes (kids.take i) : Nat) : Int)) + (z : Int) = 1 + ((Nd.sizes (kids.take (i + 1)) : Nat) : Int) := by omega
      generalize Nd.sizes (kids.take i) = u at *
      obtain ⟨v, hv⟩ : ∃ v, Nd.sizes (kids.take (i + 1)) = v := ⟨_, rfl⟩
      rw [hv] at e
      generalize kids.map Nd.av = L at *
      simp (disch := first | assumption | omega | (simp only [List.length_append, List.length_cons, List.length_nil]; omega)) only [go_sem, reduceCtorEq, Nat.reduceEqDiff, Nat.reduceAdd, Nat.reduceSub, Nat.reduceMul, Nat.reduceLeDiff, Int.reduceLT, Int.reduceLE, Int.reduceEq, ↓reduceIte, Int.reduceNeg, Int.reduceAdd, Int.reduceSub, Int.reduceMul, true_imp_iff, forall_const, Nat.mul_one, Int.reduceToNat, Nat.reducePow, Int.reducePow, Bool.true_and, Bool.false_and, Bool.and_false, hf, hlt', hmx]
      refine allocC_by fun d hd => ?_
      simp (disch := first | assumption | omega | (simp only [List.length_append, List.length_cons, List.length_nil]; omega)) only [go_sem, reduceCtorEq, Nat.reduceEqDiff, Nat.reduceAdd, Nat.reduceSub, Nat.reduceMul, Nat.reduceLeDiff, Int.reduceLT, Int.reduceLE, Int.reduceEq, ↓reduceIte, Int.reduceNeg, Int.reduceAdd, Int.reduceSub, Int.reduceMul, true_imp_iff, forall_const, Nat.mul_one, Int.reduceToNat, Nat.reducePow, Int.reducePow, Bool.true_and, Bool.false_and, Bool.and_false, hf, ASt.set_set]
      refine hxs.use ?_
      simp (disch := first | assumption | omega | (simp only [List.length_append, List.length_cons, List.length_nil]; omega)) only [go_sem, reduceCtorEq, Nat.reduceEqDiff, Nat.reduceAdd, Nat.reduceSub, Nat.reduceMul, Nat.reduceLeDiff, Int.reduceLT, Int.reduceLE, Int.reduceEq, ↓reduceIte, Int.reduceNeg, Int.reduceAdd, Int.reduceSub, Int.reduceMul, true_imp_iff, forall_const, Nat.mul_one, Int.reduceToNat, Nat.reducePow, Int.reducePow, Bool.true_and, Bool.false_and, Bool.and_false, hf, e]
      refine ⟨i + 1, by dsimp only; omega, Dr.drop (Drop.set hd) ⟨by omega, ?_, rfl⟩⟩
      rw [hv]
      simp (disch := first | assumption | omega | (simp only [List.length_append, List.length_cons, List.length_nil]; omega)) only [go_sem, reduceCtorEq, Nat.reduceEqDiff, Nat.reduceAdd, Nat.reduceSub, Nat.reduceMul, Nat.reduceLeDiff, Int.reduceLT, Int.reduceLE, Int.reduceEq, ↓reduceIte, Int.reduceNeg, Int.reduceAdd, Int.reduceSub, Int.reduceMul, true_imp_iff, forall_const, Nat.mul_one, Int.reduceToNat, Nat.reducePow, Int.reducePow, Bool.true_and, Bool.false_and, Bool.and_false, hf]
    · have hlt' : ¬ (i : Int) < kids.length := by omega
      rw [List.take_of_length_le (by omega)] at hf
      generalize Nd.sizes kids = u at *
      simp (disch := first | assumption | omega | (simp only [List.length_append, List.length_cons, List.length_nil]; omega)) only [go_sem, reduceCtorEq, Nat.reduceEqDiff, Nat.reduceAdd, Nat.reduceSub, Nat.reduceMul, Nat.reduceLeDiff, Int.reduceLT, Int.reduceLE, Int.reduceEq, ↓reduceIte, Int.reduceNeg, Int.reduceAdd, Int.reduceSub, Int.reduceMul, true_imp_iff, forall_const, Nat.mul_one, Int.reduceToNat, Nat.reducePow, Int.reducePow, Bool.true_and, Bool.false_and, Bool.and_false, hf, hlt']
      exact retC_by (by repeat' (first | exact Drop.refl _ | with_reducible refine Drop.off ?_ (by assumption))) (.refl _) ⟨rfl, rfl⟩
theorem nsize_ok (n : Nd) (h : n.size ≤ 1000000000) : Pure Tryd.prog 17 [n.av] (.int .i64 n.size) := size_le_ok n.size n (Nat.le_refl _) h
theorem depth_le_ok : ∀ (k : Nat) (n : Nd), n.size ≤ k → n.size ≤ 1000000000 → Pure Tryd.prog 8 [n.av] (.int .i64 n.depth)
  | 0, n, hk, _ => by have := n.size_pos; omega
  | k + 1, n, hk, hbig => by
    intro σ
    have ih := depth_le_ok k
    have hdd := n.depth_le_size
    obtain ⟨op, m, s, a, b, kids⟩ := n
    rw [Nd.size] at hk hbig hdd
    rw [Nd.depth] at hdd ⊢
    rw [Nd.av_cs]
    have hlen := sizes_len kids
    have hdl := depths_le kids
    refine a8 (by simp) ?_
    simp (disch := first | assumption | omega | (simp only [List.length_append, List.length_cons, List.length_nil]; omega)) only [go_sem, reduceCtorEq, Nat.reduceEqDiff, Nat.reduceAdd, Nat.reduceSub, Nat.reduceMul, Nat.reduceLeDiff, Int.reduceLT, Int.reduceLE, Int.reduceEq, ↓reduceIte, Int.reduceNeg, Int.reduceAdd, Int.reduceSub, Int.reduceMul, true_imp_iff, forall_const, Nat.mul_one, Int.reduceToNat, Nat.reducePow, Int.reducePow, Bool.true_and, Bool.false_and, Bool.and_false]
    refine boxC_by rfl fun c hc => ?_
    simp (disch := first | assumption | omega | (simp only [List.length_append, List.length_cons, List.length_nil]; omega)) only [go_sem, reduceCtorEq, Nat.reduceEqDiff, Nat.reduceAdd, Nat.reduceSub, Nat.reduceMul, Nat.reduceLeDiff, Int.reduceLT, Int.reduceLE, Int.reduceEq, ↓reduceIte, Int.reduceNeg, Int.reduceAdd, Int.reduceSub, Int.reduceMul, true_imp_iff, forall_const, Nat.mul_one, Int.reduceToNat, Nat.reducePow, Int.reducePow, Bool.true_and, Bool.false_and, Bool.and_false]
    refine wp_loop_by (fun (i : Nat) a1 s2 => i ≤ kids.length ∧ (a1 3 = .int .i64 (Nd.depths (kids.take i) : Nat) ∧ a1 7 = .sl .shr (kids.map Nd.av) ∧ a1 8 = .int .i64 kids.length ∧ a1 9 = .int .i64 i) ∧ s2 = σ) (fun i => kids.length - i) 0 (Dr.drop (Drop.set hc) ⟨Nat.zero_le _, ?_, rfl⟩) ?_
    · simp only [List.take_zero, Nd.depths]
      simp (disch := first | assumption | omega | (simp only [List.length_append, List.length_cons, List.length_nil]; omega)) only [go_sem, reduceCtorEq, Nat.reduceEqDiff, Nat.reduceAdd, Nat.reduceSub, Nat.reduceMul, Nat.reduceLeDiff, Int.reduceLT, Int.reduceLE, Int.reduceEq, ↓reduceIte, Int.reduceNeg, Int.reduceAdd, Int.reduceSub, Int.reduceMul, true_imp_iff, forall_const, Nat.mul_one, Int.reduceToNat, Nat.reducePow, Int.reducePow, Bool.true_and, Bool.false_and, Bool.and_false]
    rintro i a1 s2 ⟨hi, hf, rfl⟩
    have hle := depths_take_le kids i
    by_cases hlt : i < kids.length
    · have hlt' : (i : Int) < kids.length := by omega
      have hx : kids[i]? = some (kids[i]'hlt) := List.getElem?_eq_getElem hlt
      obtain ⟨x, hxe⟩ : ∃ x, kids[i]'hlt = x := ⟨_, rfl⟩
      rw [hxe] at hx
      have hmx := Nd.get hx
      have hst := depths_take hx
      have hsz := Nd.size_kid (List.mem_of_getElem? hx)
      have hxs := ih x (by omega) (by omega)
      obtain ⟨xo, xm, xs, xa, xb, xk⟩ := x
      rw [Nd.av_cs] at hmx hxs
      generalize (Nd.mk xo xm xs xa xb xk).depth = z at *
      have e : max ((Nd.depths (kids.take i) : Nat) : Int) (z : Int) = ((Nd.depths (kids.take (i + 1)) : Nat) : Int) := by omega
      generalize Nd.depths (kids.take i) = u at *
      obtain ⟨v, hv⟩ : ∃ v, Nd.depths (kids.take (i + 1)) = v := ⟨_, rfl⟩
      rw [hv] at e
      generalize kids.map Nd.av = L at *
      simp (disch := first | assumption | omega | (simp only [List.length_append, List.length_cons, List.length_nil]; omega)) only [go_sem, reduceCtorEq, Nat.reduceEqDiff, Nat.reduceAdd, Nat.reduceSub, Nat.reduceMul, Nat.reduceLeDiff, Int.reduceLT, Int.reduceLE, Int.reduceEq, ↓reduceIte, Int.reduceNeg, Int.reduceAdd, Int.reduceSub, Int.reduceMul, true_imp_iff, forall_const, Nat.mul_one, Int.reduceToNat, Nat.reducePow, Int.reducePow, Bool.true_and, Bool.false_and, Bool.and_false, hf, hlt', hmx]
      refine allocC_by fun d hd => ?_
      simp (disch := first | assumption | omega | (simp only [List.length_append, List.length_cons, List.length_nil]; omega)) only [go_sem, reduceCtorEq, Nat.reduceEqDiff, Nat.reduceAdd, Nat.reduceSub, Nat.reduceMul, Nat.reduceLeDiff, Int.reduceLT, Int.reduceLE, Int.reduceEq, ↓reduceIte, Int.reduceNeg, Int.reduceAdd, Int.reduceSub, Int.reduceMul, true_imp_iff, forall_const, Nat.mul_one, Int.reduceToNat, Nat.reducePow, Int.reducePow, Bool.true_and, Bool.false_and, Bool.and_false, hf, ASt.set_set]
      refine hxs.use ?_
      simp (disch := first | assumption | omega | (simp only [List.length_append, List.length_cons, List.length_nil]; omega)) only [go_sem, reduceCtorEq, Nat.reduceEqDiff, Nat.reduceAdd, Nat.reduceSub, Nat.reduceMul, Nat.reduceLeDiff, Int.reduceLT, Int.reduceLE, Int.reduceEq, ↓reduceIte, Int.reduceNeg, Int.reduceAdd, Int.reduceSub, Int.reduceMul, true_imp_iff, forall_const, Nat.mul_one, Int.reduceToNat, Nat.reducePow, Int.reducePow, Bool.true_and, Bool.false_and, Bool.and_false, hf, e]
      refine ⟨i + 1, by dsimp only; omega, Dr.drop (Drop.set hd) ⟨by omega, ?_, rfl⟩⟩
      rw [hv]
      simp (disch := first | assumption | omega | (simp only [List.length_append, List.length_cons, List.length_nil]; omega)) only [go_sem, reduceCtorEq, Nat.reduceEqDiff, Nat.reduceAdd, Nat.reduceSub, Nat.reduceMul, Nat.reduceLeDiff, Int.reduceLT, Int.reduceLE, Int.reduceEq, ↓reduceIte, Int.reduceNeg, Int.reduceAdd, Int.reduceSub, Int.reduceMul, true_imp_iff, forall_const, Nat.mul_one, Int.reduceToNat, Nat.reducePow, Int.reducePow, Bool.true_and, Bool.false_and, Bool.and_false, hf]
    · have hlt' : ¬ (i : Int) < kids.length := by omega
      rw [List.take_of_length_le (by omega)] at hf
      generalize Nd.depths kids = u at *
      simp (disch := first | assumption | omega | (simp only [List.length_append, List.length_cons, List.length_nil]; omega)) only [go_sem, reduceCtorEq, Nat.reduceEqDiff, Nat.reduceAdd, Nat.reduceSub, Nat.reduceMul, Nat.reduceLeDiff, Int.reduceLT, Int.reduceLE, Int.reduceEq, ↓reduceIte, Int.reduceNeg, Int.reduceAdd, Int.reduceSub, Int.reduceMul, true_imp_iff, forall_const, Nat.mul_one, Int.reduceToNat, Nat.reducePow, Int.reducePow, Bool.true_and, Bool.false_and, Bool.and_false, hf, hlt']
      exact retC_by (by repeat' (first | exact Drop.refl _ | with_reducible refine Drop.off ?_ (by assumption))) (.refl _) ⟨rfl, rfl⟩
theorem ndepth_ok (n : Nd) (h : n.size ≤ 1000000000) : Pure Tryd.prog 8 [n.av] (.int .i64 n.depth) := depth_le_ok n.size n (Nat.le_refl _) h
end Go.A
