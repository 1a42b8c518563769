/- AddrReads, walked. -/
import Derived.Test.YtfjnahkcfdcbeaaDoorXc
import Derived.Test.YtfjnahkcfdcbeaaDoorWb
namespace Go.A
open Go.Proofs
set_option maxRecDepth 100000
set_option linter.unusedSimpArgs false
set_option linter.unusedVariables false

theorem rtext_ok {r : Ref} (hg : r.good = true) : Pure Tryd.prog 21 [refAV r] (.str (textP r)) := by
  intro σ
  have hg' := hg
  simp only [Ref.good, decide_eq_true_eq] at hg'
  obtain ⟨g1, g2, g3, g4⟩ := hg'
  have hl := letters_len r.col
  have hn := (num_facts g1 g2).2.2.2.1
  have hd := rdigits_ok (r.row + 1).toNat (by omega)
  rw [digF_eq 3 _ (by omega)] at hd
  have hd : Pure Tryd.prog 37 [.int .u64 ((r.row + 1).toNat : Int)] (.str (numT r.row)) := hd
  rw [show (((r.row + 1).toNat : Nat) : Int) = r.row + 1 by omega] at hd
  obtain ⟨l, hlq⟩ : ∃ l, textP r = l := ⟨_, rfl⟩
  rw [hlq]
  unfold textP at hlq
  obtain ⟨row, col, ar, ac⟩ := r
  dsimp only at *
  refine a21 (by simp) ?_
  simp (disch := first | assumption | omega | (simp only [List.length_append, List.length_cons, List.length_nil]; omega)) only [go_sem, reduceCtorEq, Nat.reduceEqDiff, Nat.reduceAdd, Nat.reduceSub, Nat.reduceMul, Nat.reduceLeDiff, Int.reduceLT, Int.reduceLE, Int.reduceEq, ↓reduceIte, Int.reduceNeg, Int.reduceAdd, Int.reduceSub, Int.reduceMul, true_imp_iff, forall_const, Nat.mul_one, Int.reduceToNat, Nat.reducePow, Int.reducePow, Bool.true_and, Bool.false_and, Bool.and_false, refAV]
  refine boxC_by rfl fun b hb => ?_
  cases ac <;> cases ar <;> simp only [dolP, if_true, Bool.false_eq_true, if_false, List.nil_append, List.append_nil, List.append_assoc] at hlq
  all_goals simp (disch := first | assumption | omega | (simp only [List.length_append, List.length_cons, List.length_nil]; omega)) only [go_sem, reduceCtorEq, Nat.reduceEqDiff, Nat.reduceAdd, Nat.reduceSub, Nat.reduceMul, Nat.reduceLeDiff, Int.reduceLT, Int.reduceLE, Int.reduceEq, ↓reduceIte, Int.reduceNeg, Int.reduceAdd, Int.reduceSub, Int.reduceMul, true_imp_iff, forall_const, Nat.mul_one, Int.reduceToNat, Nat.reducePow, Int.reducePow, Bool.true_and, Bool.false_and, Bool.and_false]
  all_goals refine (rletters_ok _).use ?_
  all_goals simp (disch := first | assumption | omega | (simp only [List.length_append, List.length_cons, List.length_nil]; omega)) only [go_sem, reduceCtorEq, Nat.reduceEqDiff, Nat.reduceAdd, Nat.reduceSub, Nat.reduceMul, Nat.reduceLeDiff, Int.reduceLT, Int.reduceLE, Int.reduceEq, ↓reduceIte, Int.reduceNeg, Int.reduceAdd, Int.reduceSub, Int.reduceMul, true_imp_iff, forall_const, Nat.mul_one, Int.reduceToNat, Nat.reducePow, Int.reducePow, Bool.true_and, Bool.false_and, Bool.and_false]
  all_goals refine hd.use ?_
  all_goals simp (disch := first | assumption | omega | (simp only [List.length_append, List.length_cons, List.length_nil]; omega)) only [go_sem, reduceCtorEq, Nat.reduceEqDiff, Nat.reduceAdd, Nat.reduceSub, Nat.reduceMul, Nat.reduceLeDiff, Int.reduceLT, Int.reduceLE, Int.reduceEq, ↓reduceIte, Int.reduceNeg, Int.reduceAdd, Int.reduceSub, Int.reduceMul, true_imp_iff, forall_const, Nat.mul_one, Int.reduceToNat, Nat.reducePow, Int.reducePow, Bool.true_and, Bool.false_and, Bool.and_false]
  all_goals exact retC_by (by repeat' (first | exact Drop.refl _ | with_reducible refine Drop.off ?_ (by assumption))) (.refl _) ⟨by rw [← hlq, resV_one]; first | done | simp, rfl⟩

abbrev RT (σ : ASt) : APost := RetQ [.t 8] fun v σ' => v = .bool true ∧ σ' = σ
theorem ne_of {σ : ASt} {b c : Nat} {r : Role} (h : σ b = some r) (k : σ c = none) : b ≠ c ∧ c ≠ b := by
  constructor <;> rintro rfl <;> rw [h] at k <;> cases k
/-- From the reference on. -/
theorem reads2 {σ σ0 : ASt} (ht : Tab σ) (hd : Drop σ σ0) (r : Ref) (hg : r.good = true) (rows cols : Int) (b5 : Nat) (h5 : σ b5 = some (.obj [.int .i64 r.row, .int .i64 r.col, .bool r.absRow, .bool r.absCol])) (a : AFr)
    (hf : a 2 = .int .i64 rows ∧ a 3 = .int .i64 cols ∧ a 5 = .ptr b5 0) : ACode.wp Tryd.prog c4_43 (RT σ0) a σ := by
  have hg' := hg
  simp only [Ref.good, decide_eq_true_eq] at hg'
  obtain ⟨g1, g2, g3, g4⟩ := hg'
  have hm := moved_ok r rows cols (by omega) (by omega)
  have hm2 := rmoved_ok r hg rows cols
  have hrt := rtext_ok hg
  have hrr := refRect_ok r
  have hx : ∀ {σ : ASt}, Tab σ → ACalls Tryd.prog 12 [refAV r] σ fun v σ' => v = .str (textP r) ∧ σ' = σ := fun h => text_ok h hg
  obtain ⟨⟨q, ok⟩, hM⟩ : ∃ q, movedP r rows cols = q := ⟨_, rfl⟩
  rw [hM] at hm hm2
  obtain ⟨t, htq⟩ : ∃ t, textP r = t := ⟨_, rfl⟩
  rw [htq] at hrt hx
  clear hM htq
  obtain ⟨row, col, ar, ac⟩ := r
  obtain ⟨row2, col2, ar2, ac2⟩ := q
  simp only [refAV] at hm hm2 hrt hrr hx
  dsimp only at *
  obtain ⟨f2, f3, f5⟩ := hf
  simp (disch := first | assumption | omega | (simp only [List.length_append, List.length_cons, List.length_nil]; omega)) only [go_sem, reduceCtorEq, Nat.reduceEqDiff, Nat.reduceAdd, Nat.reduceSub, Nat.reduceMul, Nat.reduceLeDiff, Int.reduceLT, Int.reduceLE, Int.reduceEq, ↓reduceIte, Int.reduceNeg, Int.reduceAdd, Int.reduceSub, Int.reduceMul, true_imp_iff, forall_const, Nat.mul_one, Int.reduceToNat, Nat.reducePow, Int.reducePow, Bool.true_and, Bool.false_and, Bool.and_false, f2, f3, f5, h5]
  refine hm.use ?_
  simp (disch := first | assumption | omega | (simp only [List.length_append, List.length_cons, List.length_nil]; omega)) only [go_sem, reduceCtorEq, Nat.reduceEqDiff, Nat.reduceAdd, Nat.reduceSub, Nat.reduceMul, Nat.reduceLeDiff, Int.reduceLT, Int.reduceLE, Int.reduceEq, ↓reduceIte, Int.reduceNeg, Int.reduceAdd, Int.reduceSub, Int.reduceMul, true_imp_iff, forall_const, Nat.mul_one, Int.reduceToNat, Nat.reducePow, Int.reducePow, Bool.true_and, Bool.false_and, Bool.and_false, f2, f3, f5, h5]
  refine allocC_by fun b21 hb21 => ?_
  obtain ⟨m1, m2⟩ := ne_of h5 hb21
  have ht2 := ht.set (r := some (.obj [.int .i64 row2, .int .i64 col2, .bool ar2, .bool ac2])) hb21
  simp (disch := first | assumption | omega | (simp only [List.length_append, List.length_cons, List.length_nil]; omega)) only [go_sem, reduceCtorEq, Nat.reduceEqDiff, Nat.reduceAdd, Nat.reduceSub, Nat.reduceMul, Nat.reduceLeDiff, Int.reduceLT, Int.reduceLE, Int.reduceEq, ↓reduceIte, Int.reduceNeg, Int.reduceAdd, Int.reduceSub, Int.reduceMul, true_imp_iff, forall_const, Nat.mul_one, Int.reduceToNat, Nat.reducePow, Int.reducePow, Bool.true_and, Bool.false_and, Bool.and_false, f2, f3, f5, h5, m1, m2]
  refine hm2.use ?_
  simp (disch := first | assumption | omega | (simp only [List.length_append, List.length_cons, List.length_nil]; omega)) only [go_sem, reduceCtorEq, Nat.reduceEqDiff, Nat.reduceAdd, Nat.reduceSub, Nat.reduceMul, Nat.reduceLeDiff, Int.reduceLT, Int.reduceLE, Int.reduceEq, ↓reduceIte, Int.reduceNeg, Int.reduceAdd, Int.reduceSub, Int.reduceMul, true_imp_iff, forall_const, Nat.mul_one, Int.reduceToNat, Nat.reducePow, Int.reducePow, Bool.true_and, Bool.false_and, Bool.and_false, f2, f3, f5, h5, m1, m2]
  refine allocC_by fun b23 hb23 => ?_
  have ht3 := ht2.set (r := some (.obj [.int .i64 row2, .int .i64 col2, .bool ar2, .bool ac2])) hb23
  obtain ⟨m3, m4, hb23⟩ := set_none hb23
  obtain ⟨m5, m6⟩ := ne_of h5 hb23
  simp (disch := first | assumption | omega | (simp only [List.length_append, List.length_cons, List.length_nil]; omega)) only [go_sem, reduceCtorEq, Nat.reduceEqDiff, Nat.reduceAdd, Nat.reduceSub, Nat.reduceMul, Nat.reduceLeDiff, Int.reduceLT, Int.reduceLE, Int.reduceEq, ↓reduceIte, Int.reduceNeg, Int.reduceAdd, Int.reduceSub, Int.reduceMul, true_imp_iff, forall_const, Nat.mul_one, Int.reduceToNat, Nat.reducePow, Int.reducePow, Bool.true_and, Bool.false_and, Bool.and_false, f2, f3, f5, h5, m1, m2, m3, m4, m5, m6]
  refine (hx ht3).mono ?_
  rintro v σ' ⟨rfl, rfl⟩
  simp (disch := first | assumption | omega | (simp only [List.length_append, List.length_cons, List.length_nil]; omega)) only [go_sem, reduceCtorEq, Nat.reduceEqDiff, Nat.reduceAdd, Nat.reduceSub, Nat.reduceMul, Nat.reduceLeDiff, Int.reduceLT, Int.reduceLE, Int.reduceEq, ↓reduceIte, Int.reduceNeg, Int.reduceAdd, Int.reduceSub, Int.reduceMul, true_imp_iff, forall_const, Nat.mul_one, Int.reduceToNat, Nat.reducePow, Int.reducePow, Bool.true_and, Bool.false_and, Bool.and_false, f2, f3, f5, h5, m1, m2, m3, m4, m5, m6]
  refine hrt.use ?_
  simp (disch := first | assumption | omega | (simp only [List.length_append, List.length_cons, List.length_nil]; omega)) only [go_sem, reduceCtorEq, Nat.reduceEqDiff, Nat.reduceAdd, Nat.reduceSub, Nat.reduceMul, Nat.reduceLeDiff, Int.reduceLT, Int.reduceLE, Int.reduceEq, ↓reduceIte, Int.reduceNeg, Int.reduceAdd, Int.reduceSub, Int.reduceMul, true_imp_iff, forall_const, Nat.mul_one, Int.reduceToNat, Nat.reducePow, Int.reducePow, Bool.true_and, Bool.false_and, Bool.and_false, f2, f3, f5, h5, m1, m2, m3, m4, m5, m6]
  refine hrr.use ?_
  simp (disch := first | assumption | omega | (simp only [List.length_append, List.length_cons, List.length_nil]; omega)) only [go_sem, reduceCtorEq, Nat.reduceEqDiff, Nat.reduceAdd, Nat.reduceSub, Nat.reduceMul, Nat.reduceLeDiff, Int.reduceLT, Int.reduceLE, Int.reduceEq, ↓reduceIte, Int.reduceNeg, Int.reduceAdd, Int.reduceSub, Int.reduceMul, true_imp_iff, forall_const, Nat.mul_one, Int.reduceToNat, Nat.reducePow, Int.reducePow, Bool.true_and, Bool.false_and, Bool.and_false, f2, f3, f5, h5, m1, m2, m3, m4, m5, m6, rectAV]
  exact retC_by (Drop.trans (by repeat' (first | exact Drop.refl _ | with_reducible refine Drop.off ?_ (by assumption))) hd) (.refl _) ⟨rfl, rfl⟩
/-- The second test: the area, and is the reference good. -/
theorem reads1 {σ σ0 : ASt} (ht : Tab σ) (hd : Drop σ σ0) (r : Ref) (rows cols : Int) (b5 b15 b17 : Nat) (h5 : σ b5 = some (.obj [.int .i64 r.row, .int .i64 r.col, .bool r.absRow, .bool r.absCol]))
    (x y : Ref) (ok : Bool) (h15 : σ b15 = some (.obj [.int .i64 x.row, .int .i64 x.col, .bool x.absRow, .bool x.absCol, .int .i64 y.row, .int .i64 y.col, .bool y.absRow, .bool y.absCol]))
    (h17 : σ b17 = some (.obj [.int .i64 x.row, .int .i64 x.col, .bool x.absRow, .bool x.absCol, .int .i64 y.row, .int .i64 y.col, .bool y.absRow, .bool y.absCol])) (a : AFr)
    (hf : a 2 = .int .i64 rows ∧ a 3 = .int .i64 cols ∧ a 5 = .ptr b5 0 ∧ a 15 = .ptr b15 0 ∧ a 16 = .bool ok ∧ a 17 = .ptr b17 0 ∧ a 18 = .bool ok) : ACode.wp Tryd.prog c4_45 (RT σ0) a σ := by
  obtain ⟨f2, f3, f5, f15, f16, f17, f18⟩ := hf
  have hg1 := good_ok r
  have hg2 := rgood_ok r
  have fin := reads2 ht hd r
  obtain ⟨g, hg⟩ : ∃ g, r.good = g := ⟨_, rfl⟩
  rw [hg] at hg1 hg2 fin
  obtain ⟨F, hF⟩ : ∃ F, F = ACode.wp Tryd.prog c4_43 := ⟨_, rfl⟩
  simp only [← hF] at fin
  obtain ⟨row, col, ar, ac⟩ := r
  obtain ⟨r1, c1, ar1, ac1⟩ := x
  obtain ⟨r2, c2, ar2, ac2⟩ := y
  simp only [refAV] at hg1 hg2
  dsimp only at *
  simp (disch := first | assumption | omega | (simp only [List.length_append, List.length_cons, List.length_nil]; omega)) only [go_sem, reduceCtorEq, Nat.reduceEqDiff, Nat.reduceAdd, Nat.reduceSub, Nat.reduceMul, Nat.reduceLeDiff, Int.reduceLT, Int.reduceLE, Int.reduceEq, ↓reduceIte, Int.reduceNeg, Int.reduceAdd, Int.reduceSub, Int.reduceMul, true_imp_iff, forall_const, Nat.mul_one, Int.reduceToNat, Nat.reducePow, Int.reducePow, Bool.true_and, Bool.false_and, Bool.and_false, f2, f3, f5, f15, f16, f17, f18, h5, h15, h17, ←hF]
  refine hg1.use ?_
  simp (disch := first | assumption | omega | (simp only [List.length_append, List.length_cons, List.length_nil]; omega)) only [go_sem, reduceCtorEq, Nat.reduceEqDiff, Nat.reduceAdd, Nat.reduceSub, Nat.reduceMul, Nat.reduceLeDiff, Int.reduceLT, Int.reduceLE, Int.reduceEq, ↓reduceIte, Int.reduceNeg, Int.reduceAdd, Int.reduceSub, Int.reduceMul, true_imp_iff, forall_const, Nat.mul_one, Int.reduceToNat, Nat.reducePow, Int.reducePow, Bool.true_and, Bool.false_and, Bool.and_false, f2, f3, f5, h5, ←hF]
  refine hg2.use ?_
  simp (disch := first | assumption | omega | (simp only [List.length_append, List.length_cons, List.length_nil]; omega)) only [go_sem, reduceCtorEq, Nat.reduceEqDiff, Nat.reduceAdd, Nat.reduceSub, Nat.reduceMul, Nat.reduceLeDiff, Int.reduceLT, Int.reduceLE, Int.reduceEq, ↓reduceIte, Int.reduceNeg, Int.reduceAdd, Int.reduceSub, Int.reduceMul, true_imp_iff, forall_const, Nat.mul_one, Int.reduceToNat, Nat.reducePow, Int.reducePow, Bool.true_and, Bool.false_and, Bool.and_false, f2, f3, f5, h5, ←hF]
  refine hg1.use ?_
  cases g
  · simp (disch := first | assumption | omega | (simp only [List.length_append, List.length_cons, List.length_nil]; omega)) only [go_sem, reduceCtorEq, Nat.reduceEqDiff, Nat.reduceAdd, Nat.reduceSub, Nat.reduceMul, Nat.reduceLeDiff, Int.reduceLT, Int.reduceLE, Int.reduceEq, ↓reduceIte, Int.reduceNeg, Int.reduceAdd, Int.reduceSub, Int.reduceMul, true_imp_iff, forall_const, Nat.mul_one, Int.reduceToNat, Nat.reducePow, Int.reducePow, Bool.true_and, Bool.false_and, Bool.and_false, f2, f3, f5, h5, ←hF]
    exact retC_by hd (.refl _) ⟨rfl, rfl⟩
  · simp (disch := first | assumption | omega | (simp only [List.length_append, List.length_cons, List.length_nil]; omega)) only [go_sem, reduceCtorEq, Nat.reduceEqDiff, Nat.reduceAdd, Nat.reduceSub, Nat.reduceMul, Nat.reduceLeDiff, Int.reduceLT, Int.reduceLE, Int.reduceEq, ↓reduceIte, Int.reduceNeg, Int.reduceAdd, Int.reduceSub, Int.reduceMul, true_imp_iff, forall_const, Nat.mul_one, Int.reduceToNat, Nat.reducePow, Int.reducePow, Bool.true_and, Bool.false_and, Bool.and_false, f2, f3, f5, h5, ←hF]
    refine fin rfl rows cols b5 h5 _ ?_
    simp (disch := first | assumption | omega | (simp only [List.length_append, List.length_cons, List.length_nil]; omega)) only [go_sem, reduceCtorEq, Nat.reduceEqDiff, Nat.reduceAdd, Nat.reduceSub, Nat.reduceMul, Nat.reduceLeDiff, Int.reduceLT, Int.reduceLE, Int.reduceEq, ↓reduceIte, Int.reduceNeg, Int.reduceAdd, Int.reduceSub, Int.reduceMul, true_imp_iff, forall_const, Nat.mul_one, Int.reduceToNat, Nat.reducePow, Int.reducePow, Bool.true_and, Bool.false_and, Bool.and_false, f2, f3, f5]

set_option maxHeartbeats 2000000 in
theorem AddrReads_any {σ : ASt} (ht : Tab σ) (l : List UInt8) (r : Ref) (rows cols : Int) : ACalls Tryd.prog 4 [.str l, refAV r, .int .i64 rows, .int .i64 cols] σ fun v σ' => v = .bool true ∧ σ' = σ := by
  refine a4 (by simp) ?_
  obtain ⟨F, hF⟩ : ∃ F, F = ACode.wp Tryd.prog c4_50 := ⟨_, rfl⟩
  obtain ⟨G, hG⟩ : ∃ F, F = ACode.wp Tryd.prog c4_45 := ⟨_, rfl⟩
  have hc := cut_ok l 30
  have hl : (l.take 30).length ≤ 30 := by simp; omega
  obtain ⟨s, hs⟩ : ∃ s, l.take 30 = s := ⟨_, rfl⟩
  rw [hs] at hc hl
  have h1 := read_ok s (by omega)
  have h2 := rread_ok s (by omega)
  have h3 := parse_ok s (by omega)
  have h4 := parseArea_ok s (by omega)
  have hbd := readP_bd s
  have hat : ∀ n : Nat, n < s.length → ∃ c, s[n]? = some c ∧ atP s n = c.toNat := fun n hn => ⟨s[n], List.getElem?_eq_getElem hn, by unfold atP; rw [List.getElem?_eq_getElem hn]⟩
  unfold parseAreaP at h4
  unfold parseP at h3
  obtain ⟨⟨x, m⟩, hR⟩ : ∃ R, readP s = R := ⟨_, rfl⟩
  rw [hR] at h1 h2 h3 h4 hbd
  dsimp only at h1 h2 h3 h4 hbd
  obtain ⟨n, rfl⟩ : ∃ n : Nat, m = n := ⟨m.toNat, by omega⟩
  rw [Int.toNat_natCast] at h4
  obtain ⟨hb0, hbl⟩ := hbd
  have fin : ∀ (σ1 : ASt), Tab σ1 → Drop σ1 σ → ∀ (b5 b15 b17 : Nat) (y z : Ref) (ok : Bool), σ1 b5 = some (.obj [.int .i64 r.row, .int .i64 r.col, .bool r.absRow, .bool r.absCol]) →
      σ1 b15 = some (.obj [.int .i64 y.row, .int .i64 y.col, .bool y.absRow, .bool y.absCol, .int .i64 z.row, .int .i64 z.col, .bool z.absRow, .bool z.absCol]) →
      σ1 b17 = some (.obj [.int .i64 y.row, .int .i64 y.col, .bool y.absRow, .bool y.absCol, .int .i64 z.row, .int .i64 z.col, .bool z.absRow, .bool z.absCol]) →
      ∀ a : AFr, (a 2 = .int .i64 rows ∧ a 3 = .int .i64 cols ∧ a 5 = .ptr b5 0 ∧ a 15 = .ptr b15 0 ∧ a 16 = .bool ok ∧ a 17 = .ptr b17 0 ∧ a 18 = .bool ok) → G (RT σ) a σ1 := by
    intro σ1 k1 k2 b5 b15 b17 y z ok k5 k15 k17 a ha
    rw [hG]
    exact reads1 k1 k2 r rows cols b5 b15 b17 k5 y z ok k15 k17 a ha
  have mid : ∀ (σ1 : ASt), Tab σ1 → Drop σ1 σ → ∀ b5 b9, b5 ≠ b9 → σ1 b5 = some (.obj [.int .i64 r.row, .int .i64 r.col, .bool r.absRow, .bool r.absCol]) →
      σ1 b9 = some (.obj [.int .i64 x.row, .int .i64 x.col, .bool x.absRow, .bool x.absCol]) →
      ∀ a : AFr, (a 0 = .str s ∧ a 2 = .int .i64 rows ∧ a 3 = .int .i64 cols ∧ a 5 = .ptr b5 0 ∧ a 9 = .ptr b9 0 ∧ a 12 = .int .i64 n) → F (RT σ) a σ1 := by
    intro σ1 k1 k2 b5 b9 k59 k5 k9 a ha
    obtain ⟨f0, f2, f3, f5, f9, f12⟩ := ha
    obtain ⟨⟨⟨y, z⟩, ok⟩, hA⟩ : ∃ A, (if (n : Int) = 0 then ((Ref.zero, Ref.zero), false) else if (n : Int) = s.length then ((x, x), true) else if atP s n ≠ 58 then ((Ref.zero, Ref.zero), false)
      else if (parseP (s.drop (n + 1))).2 = false then ((Ref.zero, Ref.zero), false) else ((x, (parseP (s.drop (n + 1))).1), true)) = A := ⟨_, rfl⟩
    rw [hA] at h4
    dsimp only at h4
    have hr2 := rread_ok (s.drop (n + 1)) (by simp; omega)
    have hbd2 := readP_bd (s.drop (n + 1))
    unfold parseP at hA
    obtain ⟨⟨x2, m2⟩, hR2⟩ : ∃ R, readP (s.drop (n + 1)) = R := ⟨_, rfl⟩
    rw [hR2] at hA hr2 hbd2
    dsimp only at hA hr2 hbd2
    clear h1 h2 h3
    obtain ⟨row, col, ar, ac⟩ := r
    obtain ⟨row1, col1, ar1, ac1⟩ := x
    obtain ⟨yr, yc, yar, yac⟩ := y
    obtain ⟨zr, zc, zar, zac⟩ := z
    obtain ⟨row3, col3, ar3, ac3⟩ := x2
    simp only [refAV, areaAV] at h4 hr2
    dsimp only at k5 k9 fin hA
    rw [hF]
    simp (disch := first | assumption | omega | (simp only [List.length_append, List.length_cons, List.length_nil]; omega)) only [go_sem, reduceCtorEq, Nat.reduceEqDiff, Nat.reduceAdd, Nat.reduceSub, Nat.reduceMul, Nat.reduceLeDiff, Int.reduceLT, Int.reduceLE, Int.reduceEq, ↓reduceIte, Int.reduceNeg, Int.reduceAdd, Int.reduceSub, Int.reduceMul, true_imp_iff, forall_const, Nat.mul_one, Int.reduceToNat, Nat.reducePow, Int.reducePow, Bool.true_and, Bool.false_and, Bool.and_false, f0, f2, f3, f5, f9, f12, ←hG]
    refine h4.use ?_
    simp (disch := first | assumption | omega | (simp only [List.length_append, List.length_cons, List.length_nil]; omega)) only [go_sem, reduceCtorEq, Nat.reduceEqDiff, Nat.reduceAdd, Nat.reduceSub, Nat.reduceMul, Nat.reduceLeDiff, Int.reduceLT, Int.reduceLE, Int.reduceEq, ↓reduceIte, Int.reduceNeg, Int.reduceAdd, Int.reduceSub, Int.reduceMul, true_imp_iff, forall_const, Nat.mul_one, Int.reduceToNat, Nat.reducePow, Int.reducePow, Bool.true_and, Bool.false_and, Bool.and_false, f0, f2, f3, f5, f9, f12, ←hG]
    refine allocC_by fun b15 hb15 => ?_
    obtain ⟨p1, p2⟩ := ne_of k5 hb15
    obtain ⟨p3, p4⟩ := ne_of k9 hb15
    have t1 := k1.set (r := some (.obj [.int .i64 yr, .int .i64 yc, .bool yar, .bool yac, .int .i64 zr, .int .i64 zc, .bool zar, .bool zac])) hb15
    simp (disch := first | assumption | omega | (simp only [List.length_append, List.length_cons, List.length_nil]; omega)) only [go_sem, reduceCtorEq, Nat.reduceEqDiff, Nat.reduceAdd, Nat.reduceSub, Nat.reduceMul, Nat.reduceLeDiff, Int.reduceLT, Int.reduceLE, Int.reduceEq, ↓reduceIte, Int.reduceNeg, Int.reduceAdd, Int.reduceSub, Int.reduceMul, true_imp_iff, forall_const, Nat.mul_one, Int.reduceToNat, Nat.reducePow, Int.reducePow, Bool.true_and, Bool.false_and, Bool.and_false, f0, f2, f3, f5, f9, f12, p1, p2, p3, p4, ←hG]
    refine allocC_by fun b17 hb17 => ?_
    have hb17' := hb17
    obtain ⟨p5, p6, k17⟩ := set_none hb17
    obtain ⟨p7, p8⟩ := ne_of k5 k17
    obtain ⟨p9, p10⟩ := ne_of k9 k17
    by_cases z0 : (n : Int) = 0
    · rw [if_pos z0] at hA
      simp only [Prod.mk.injEq, Ref.zero, Ref.mk.injEq] at hA
      obtain ⟨⟨⟨rfl, rfl, rfl, rfl⟩, rfl, rfl, rfl, rfl⟩, rfl⟩ := hA
      have g1 : ¬ (0 : Int) < n := by omega
      simp (disch := first | assumption | omega | (simp only [List.length_append, List.length_cons, List.length_nil]; omega)) only [go_sem, reduceCtorEq, Nat.reduceEqDiff, Nat.reduceAdd, Nat.reduceSub, Nat.reduceMul, Nat.reduceLeDiff, Int.reduceLT, Int.reduceLE, Int.reduceEq, ↓reduceIte, Int.reduceNeg, Int.reduceAdd, Int.reduceSub, Int.reduceMul, true_imp_iff, forall_const, Nat.mul_one, Int.reduceToNat, Nat.reducePow, Int.reducePow, Bool.true_and, Bool.false_and, Bool.and_false, f0, f2, f3, f5, f9, f12, k5, k9, p1, p2, p3, p4, p5, p6, p7, p8, p9, p10, g1, ←hG]
      refine fin _ (t1.set hb17') (Drop.trans (by repeat' (first | exact Drop.refl _ | with_reducible refine Drop.off ?_ (by assumption))) k2) b5 b15 b17 .zero .zero false ?_ ?_ ?_ _ ?_
      · simp (disch := first | assumption | omega | (simp only [List.length_append, List.length_cons, List.length_nil]; omega)) only [go_sem, reduceCtorEq, Nat.reduceEqDiff, Nat.reduceAdd, Nat.reduceSub, Nat.reduceMul, Nat.reduceLeDiff, Int.reduceLT, Int.reduceLE, Int.reduceEq, ↓reduceIte, Int.reduceNeg, Int.reduceAdd, Int.reduceSub, Int.reduceMul, true_imp_iff, forall_const, Nat.mul_one, Int.reduceToNat, Nat.reducePow, Int.reducePow, Bool.true_and, Bool.false_and, Bool.and_false, k5, p1, p7]
      · simp (disch := first | assumption | omega | (simp only [List.length_append, List.length_cons, List.length_nil]; omega)) only [go_sem, reduceCtorEq, Nat.reduceEqDiff, Nat.reduceAdd, Nat.reduceSub, Nat.reduceMul, Nat.reduceLeDiff, Int.reduceLT, Int.reduceLE, Int.reduceEq, ↓reduceIte, Int.reduceNeg, Int.reduceAdd, Int.reduceSub, Int.reduceMul, true_imp_iff, forall_const, Nat.mul_one, Int.reduceToNat, Nat.reducePow, Int.reducePow, Bool.true_and, Bool.false_and, Bool.and_false, p5, p6, Ref.zero]
      · simp (disch := first | assumption | omega | (simp only [List.length_append, List.length_cons, List.length_nil]; omega)) only [go_sem, reduceCtorEq, Nat.reduceEqDiff, Nat.reduceAdd, Nat.reduceSub, Nat.reduceMul, Nat.reduceLeDiff, Int.reduceLT, Int.reduceLE, Int.reduceEq, ↓reduceIte, Int.reduceNeg, Int.reduceAdd, Int.reduceSub, Int.reduceMul, true_imp_iff, forall_const, Nat.mul_one, Int.reduceToNat, Nat.reducePow, Int.reducePow, Bool.true_and, Bool.false_and, Bool.and_false, Ref.zero]
      · simp (disch := first | assumption | omega | (simp only [List.length_append, List.length_cons, List.length_nil]; omega)) only [go_sem, reduceCtorEq, Nat.reduceEqDiff, Nat.reduceAdd, Nat.reduceSub, Nat.reduceMul, Nat.reduceLeDiff, Int.reduceLT, Int.reduceLE, Int.reduceEq, ↓reduceIte, Int.reduceNeg, Int.reduceAdd, Int.reduceSub, Int.reduceMul, true_imp_iff, forall_const, Nat.mul_one, Int.reduceToNat, Nat.reducePow, Int.reducePow, Bool.true_and, Bool.false_and, Bool.and_false, f2, f3, f5]
    rw [if_neg z0] at hA
    have g1 : (0 : Int) < n := by omega
    by_cases z1 : (n : Int) = s.length
    · rw [if_pos z1] at hA
      simp only [Prod.mk.injEq, Ref.mk.injEq] at hA
      obtain ⟨⟨⟨rfl, rfl, rfl, rfl⟩, rfl, rfl, rfl, rfl⟩, rfl⟩ := hA
      have g2 : ¬ (n : Int) < s.length := by omega
      simp (disch := first | assumption | omega | (simp only [List.length_append, List.length_cons, List.length_nil]; omega)) only [go_sem, reduceCtorEq, Nat.reduceEqDiff, Nat.reduceAdd, Nat.reduceSub, Nat.reduceMul, Nat.reduceLeDiff, Int.reduceLT, Int.reduceLE, Int.reduceEq, ↓reduceIte, Int.reduceNeg, Int.reduceAdd, Int.reduceSub, Int.reduceMul, true_imp_iff, forall_const, Nat.mul_one, Int.reduceToNat, Nat.reducePow, Int.reducePow, Bool.true_and, Bool.false_and, Bool.and_false, f0, f2, f3, f5, f9, f12, k5, k9, p1, p2, p3, p4, p5, p6, p7, p8, p9, p10, g1, z1, ASt.set_set, Int.lt_irrefl, not_false_eq_true, g2, ←hG]
      try simp (disch := first | assumption | omega | (simp only [List.length_append, List.length_cons, List.length_nil]; omega)) only [go_sem, reduceCtorEq, Nat.reduceEqDiff, Nat.reduceAdd, Nat.reduceSub, Nat.reduceMul, Nat.reduceLeDiff, Int.reduceLT, Int.reduceLE, Int.reduceEq, ↓reduceIte, Int.reduceNeg, Int.reduceAdd, Int.reduceSub, Int.reduceMul, true_imp_iff, forall_const, Nat.mul_one, Int.reduceToNat, Nat.reducePow, Int.reducePow, Bool.true_and, Bool.false_and, Bool.and_false, f0, f2, f3, f5, f9, f12, k5, k9, p1, p2, p3, p4, p5, p6, p7, p8, p9, p10, g1, z1, ASt.set_set, Int.lt_irrefl, decide_false, g2, ←hG]
      refine fin _ (t1.set hb17') (Drop.trans (by repeat' (first | exact Drop.refl _ | with_reducible refine Drop.off ?_ (by assumption))) k2) b5 b15 b17 ⟨row1, col1, ar1, ac1⟩ ⟨row1, col1, ar1, ac1⟩ true ?_ ?_ ?_ _ ?_
      · simp (disch := first | assumption | omega | (simp only [List.length_append, List.length_cons, List.length_nil]; omega)) only [go_sem, reduceCtorEq, Nat.reduceEqDiff, Nat.reduceAdd, Nat.reduceSub, Nat.reduceMul, Nat.reduceLeDiff, Int.reduceLT, Int.reduceLE, Int.reduceEq, ↓reduceIte, Int.reduceNeg, Int.reduceAdd, Int.reduceSub, Int.reduceMul, true_imp_iff, forall_const, Nat.mul_one, Int.reduceToNat, Nat.reducePow, Int.reducePow, Bool.true_and, Bool.false_and, Bool.and_false, k5, p1, p7]
      · simp (disch := first | assumption | omega | (simp only [List.length_append, List.length_cons, List.length_nil]; omega)) only [go_sem, reduceCtorEq, Nat.reduceEqDiff, Nat.reduceAdd, Nat.reduceSub, Nat.reduceMul, Nat.reduceLeDiff, Int.reduceLT, Int.reduceLE, Int.reduceEq, ↓reduceIte, Int.reduceNeg, Int.reduceAdd, Int.reduceSub, Int.reduceMul, true_imp_iff, forall_const, Nat.mul_one, Int.reduceToNat, Nat.reducePow, Int.reducePow, Bool.true_and, Bool.false_and, Bool.and_false, p5, p6, Ref.zero]
      · simp (disch := first | assumption | omega | (simp only [List.length_append, List.length_cons, List.length_nil]; omega)) only [go_sem, reduceCtorEq, Nat.reduceEqDiff, Nat.reduceAdd, Nat.reduceSub, Nat.reduceMul, Nat.reduceLeDiff, Int.reduceLT, Int.reduceLE, Int.reduceEq, ↓reduceIte, Int.reduceNeg, Int.reduceAdd, Int.reduceSub, Int.reduceMul, true_imp_iff, forall_const, Nat.mul_one, Int.reduceToNat, Nat.reducePow, Int.reducePow, Bool.true_and, Bool.false_and, Bool.and_false, Ref.zero]
      · simp (disch := first | assumption | omega | (simp only [List.length_append, List.length_cons, List.length_nil]; omega)) only [go_sem, reduceCtorEq, Nat.reduceEqDiff, Nat.reduceAdd, Nat.reduceSub, Nat.reduceMul, Nat.reduceLeDiff, Int.reduceLT, Int.reduceLE, Int.reduceEq, ↓reduceIte, Int.reduceNeg, Int.reduceAdd, Int.reduceSub, Int.reduceMul, true_imp_iff, forall_const, Nat.mul_one, Int.reduceToNat, Nat.reducePow, Int.reducePow, Bool.true_and, Bool.false_and, Bool.and_false, f2, f3, f5]
    rw [if_neg z1] at hA
    have g2 : (n : Int) < s.length := by omega
    obtain ⟨c, hidx, hatc⟩ := hat n (by omega)
    rw [hatc] at hA
    by_cases z2 : (c.toNat : Int) = 58
    · rw [if_neg (by simpa using z2)] at hA
      have e1 : ((n : Int) + 1).toNat = n + 1 := by omega
      have hdl : (s.drop (n + 1)).length = s.length - (n + 1) := List.length_drop
      rw [hdl] at hA hbd2
      simp (disch := first | assumption | omega | (simp only [List.length_append, List.length_cons, List.length_nil]; omega)) only [go_sem, reduceCtorEq, Nat.reduceEqDiff, Nat.reduceAdd, Nat.reduceSub, Nat.reduceMul, Nat.reduceLeDiff, Int.reduceLT, Int.reduceLE, Int.reduceEq, ↓reduceIte, Int.reduceNeg, Int.reduceAdd, Int.reduceSub, Int.reduceMul, true_imp_iff, forall_const, Nat.mul_one, Int.reduceToNat, Nat.reducePow, Int.reducePow, Bool.true_and, Bool.false_and, Bool.and_false, f0, f2, f3, f5, f9, f12, k5, k9, p1, p2, p3, p4, p5, p6, p7, p8, p9, p10, g1, g2, z1, hidx, z2, e1, List.take_length, ←hG]
      refine hr2.use ?_
      simp (disch := first | assumption | omega | (simp only [List.length_append, List.length_cons, List.length_nil]; omega)) only [go_sem, reduceCtorEq, Nat.reduceEqDiff, Nat.reduceAdd, Nat.reduceSub, Nat.reduceMul, Nat.reduceLeDiff, Int.reduceLT, Int.reduceLE, Int.reduceEq, ↓reduceIte, Int.reduceNeg, Int.reduceAdd, Int.reduceSub, Int.reduceMul, true_imp_iff, forall_const, Nat.mul_one, Int.reduceToNat, Nat.reducePow, Int.reducePow, Bool.true_and, Bool.false_and, Bool.and_false, f0, f2, f3, f5, f9, f12, k5, k9, p1, p2, p3, p4, p5, p6, p7, p8, p9, p10, ←hG]
      refine allocC_by fun b19 hb19 => ?_
      have hb19' := hb19
      repeat (with_reducible replace hb19 := set_none hb19; obtain ⟨_, _, hb19⟩ := hb19)
      obtain ⟨p11, p12⟩ := ne_of k5 hb19
      obtain ⟨p13, p14⟩ := ne_of k9 hb19
      by_cases z3 : m2 = 0 ∨ m2 < (s.length - (n + 1) : Nat)
      · rw [if_pos z3, if_pos rfl] at hA
        simp only [Prod.mk.injEq, Ref.zero, Ref.mk.injEq] at hA
        obtain ⟨⟨⟨rfl, rfl, rfl, rfl⟩, rfl, rfl, rfl, rfl⟩, rfl⟩ := hA
        have g4 : ¬ m2 = (s.length : Int) - n - 1 ∨ ¬ 0 < m2 := by omega
        by_cases g3 : 0 < m2
        · have g5 : ¬ m2 = (s.length : Int) - n - 1 := by omega
          simp (disch := first | assumption | omega | (simp only [List.length_append, List.length_cons, List.length_nil]; omega)) only [go_sem, reduceCtorEq, Nat.reduceEqDiff, Nat.reduceAdd, Nat.reduceSub, Nat.reduceMul, Nat.reduceLeDiff, Int.reduceLT, Int.reduceLE, Int.reduceEq, ↓reduceIte, Int.reduceNeg, Int.reduceAdd, Int.reduceSub, Int.reduceMul, true_imp_iff, forall_const, Nat.mul_one, Int.reduceToNat, Nat.reducePow, Int.reducePow, Bool.true_and, Bool.false_and, Bool.and_false, f0, f2, f3, f5, f9, f12, k5, k9, p1, p2, p3, p4, p5, p6, p7, p8, p9, p10, p11, p12, p13, p14, g3, g5, ←hG]
          refine fin _ ((t1.set hb17').set hb19') (Drop.trans (by repeat' (first | exact Drop.refl _ | with_reducible refine Drop.off ?_ (by assumption))) k2) b5 b15 b17 .zero .zero false ?_ ?_ ?_ _ ?_
          · simp (disch := first | assumption | omega | (simp only [List.length_append, List.length_cons, List.length_nil]; omega)) only [go_sem, reduceCtorEq, Nat.reduceEqDiff, Nat.reduceAdd, Nat.reduceSub, Nat.reduceMul, Nat.reduceLeDiff, Int.reduceLT, Int.reduceLE, Int.reduceEq, ↓reduceIte, Int.reduceNeg, Int.reduceAdd, Int.reduceSub, Int.reduceMul, true_imp_iff, forall_const, Nat.mul_one, Int.reduceToNat, Nat.reducePow, Int.reducePow, Bool.true_and, Bool.false_and, Bool.and_false, k5, p1, p7, p11]
          · simp (disch := first | assumption | omega | (simp only [List.length_append, List.length_cons, List.length_nil]; omega)) only [go_sem, reduceCtorEq, Nat.reduceEqDiff, Nat.reduceAdd, Nat.reduceSub, Nat.reduceMul, Nat.reduceLeDiff, Int.reduceLT, Int.reduceLE, Int.reduceEq, ↓reduceIte, Int.reduceNeg, Int.reduceAdd, Int.reduceSub, Int.reduceMul, true_imp_iff, forall_const, Nat.mul_one, Int.reduceToNat, Nat.reducePow, Int.reducePow, Bool.true_and, Bool.false_and, Bool.and_false, p5, p6, Ref.zero]
          · simp (disch := first | assumption | omega | (simp only [List.length_append, List.length_cons, List.length_nil]; omega)) only [go_sem, reduceCtorEq, Nat.reduceEqDiff, Nat.reduceAdd, Nat.reduceSub, Nat.reduceMul, Nat.reduceLeDiff, Int.reduceLT, Int.reduceLE, Int.reduceEq, ↓reduceIte, Int.reduceNeg, Int.reduceAdd, Int.reduceSub, Int.reduceMul, true_imp_iff, forall_const, Nat.mul_one, Int.reduceToNat, Nat.reducePow, Int.reducePow, Bool.true_and, Bool.false_and, Bool.and_false, Ref.zero]
          · simp (disch := first | assumption | omega | (simp only [List.length_append, List.length_cons, List.length_nil]; omega)) only [go_sem, reduceCtorEq, Nat.reduceEqDiff, Nat.reduceAdd, Nat.reduceSub, Nat.reduceMul, Nat.reduceLeDiff, Int.reduceLT, Int.reduceLE, Int.reduceEq, ↓reduceIte, Int.reduceNeg, Int.reduceAdd, Int.reduceSub, Int.reduceMul, true_imp_iff, forall_const, Nat.mul_one, Int.reduceToNat, Nat.reducePow, Int.reducePow, Bool.true_and, Bool.false_and, Bool.and_false, f2, f3, f5]
        · simp (disch := first | assumption | omega | (simp only [List.length_append, List.length_cons, List.length_nil]; omega)) only [go_sem, reduceCtorEq, Nat.reduceEqDiff, Nat.reduceAdd, Nat.reduceSub, Nat.reduceMul, Nat.reduceLeDiff, Int.reduceLT, Int.reduceLE, Int.reduceEq, ↓reduceIte, Int.reduceNeg, Int.reduceAdd, Int.reduceSub, Int.reduceMul, true_imp_iff, forall_const, Nat.mul_one, Int.reduceToNat, Nat.reducePow, Int.reducePow, Bool.true_and, Bool.false_and, Bool.and_false, f0, f2, f3, f5, f9, f12, k5, k9, p1, p2, p3, p4, p5, p6, p7, p8, p9, p10, p11, p12, p13, p14, g3, ←hG]
          refine fin _ ((t1.set hb17').set hb19') (Drop.trans (by repeat' (first | exact Drop.refl _ | with_reducible refine Drop.off ?_ (by assumption))) k2) b5 b15 b17 .zero .zero false ?_ ?_ ?_ _ ?_
          · simp (disch := first | assumption | omega | (simp only [List.length_append, List.length_cons, List.length_nil]; omega)) only [go_sem, reduceCtorEq, Nat.reduceEqDiff, Nat.reduceAdd, Nat.reduceSub, Nat.reduceMul, Nat.reduceLeDiff, Int.reduceLT, Int.reduceLE, Int.reduceEq, ↓reduceIte, Int.reduceNeg, Int.reduceAdd, Int.reduceSub, Int.reduceMul, true_imp_iff, forall_const, Nat.mul_one, Int.reduceToNat, Nat.reducePow, Int.reducePow, Bool.true_and, Bool.false_and, Bool.and_false, k5, p1, p7, p11]
          · simp (disch := first | assumption | omega | (simp only [List.length_append, List.length_cons, List.length_nil]; omega)) only [go_sem, reduceCtorEq, Nat.reduceEqDiff, Nat.reduceAdd, Nat.reduceSub, Nat.reduceMul, Nat.reduceLeDiff, Int.reduceLT, Int.reduceLE, Int.reduceEq, ↓reduceIte, Int.reduceNeg, Int.reduceAdd, Int.reduceSub, Int.reduceMul, true_imp_iff, forall_const, Nat.mul_one, Int.reduceToNat, Nat.reducePow, Int.reducePow, Bool.true_and, Bool.false_and, Bool.and_false, p5, p6, Ref.zero]
          · simp (disch := first | assumption | omega | (simp only [List.length_append, List.length_cons, List.length_nil]; omega)) only [go_sem, reduceCtorEq, Nat.reduceEqDiff, Nat.reduceAdd, Nat.reduceSub, Nat.reduceMul, Nat.reduceLeDiff, Int.reduceLT, Int.reduceLE, Int.reduceEq, ↓reduceIte, Int.reduceNeg, Int.reduceAdd, Int.reduceSub, Int.reduceMul, true_imp_iff, forall_const, Nat.mul_one, Int.reduceToNat, Nat.reducePow, Int.reducePow, Bool.true_and, Bool.false_and, Bool.and_false, Ref.zero]
          · simp (disch := first | assumption | omega | (simp only [List.length_append, List.length_cons, List.length_nil]; omega)) only [go_sem, reduceCtorEq, Nat.reduceEqDiff, Nat.reduceAdd, Nat.reduceSub, Nat.reduceMul, Nat.reduceLeDiff, Int.reduceLT, Int.reduceLE, Int.reduceEq, ↓reduceIte, Int.reduceNeg, Int.reduceAdd, Int.reduceSub, Int.reduceMul, true_imp_iff, forall_const, Nat.mul_one, Int.reduceToNat, Nat.reducePow, Int.reducePow, Bool.true_and, Bool.false_and, Bool.and_false, f2, f3, f5]
      · rw [if_neg z3, if_neg (by simp)] at hA
        simp only [Prod.mk.injEq, Ref.mk.injEq] at hA
        obtain ⟨⟨⟨rfl, rfl, rfl, rfl⟩, rfl, rfl, rfl, rfl⟩, rfl⟩ := hA
        have g3 : 0 < m2 := by omega
        have g5 : m2 = (s.length : Int) - n - 1 := by omega
        simp (disch := first | assumption | omega | (simp only [List.length_append, List.length_cons, List.length_nil]; omega)) only [go_sem, reduceCtorEq, Nat.reduceEqDiff, Nat.reduceAdd, Nat.reduceSub, Nat.reduceMul, Nat.reduceLeDiff, Int.reduceLT, Int.reduceLE, Int.reduceEq, ↓reduceIte, Int.reduceNeg, Int.reduceAdd, Int.reduceSub, Int.reduceMul, true_imp_iff, forall_const, Nat.mul_one, Int.reduceToNat, Nat.reducePow, Int.reducePow, Bool.true_and, Bool.false_and, Bool.and_false, f0, f2, f3, f5, f9, f12, k5, k9, p1, p2, p3, p4, p5, p6, p7, p8, p9, p10, p11, p12, p13, p14, g3, g5, ASt.set_set, ←hG]
        have t4 : Tab ((((σ1.set b15 (some (.obj [.int .i64 row1, .int .i64 col1, .bool ar1, .bool ac1, .int .i64 row3, .int .i64 col3, .bool ar3, .bool ac3]))).set b17 (some (.obj [.int .i64 0, .int .i64 0, .bool false, .bool false, .int .i64 0, .int .i64 0, .bool false, .bool false]))).set b19 (some (.obj [.int .i64 row3, .int .i64 col3, .bool ar3, .bool ac3]))).set b17 (some (.obj [.int .i64 row1, .int .i64 col1, .bool ar1, .bool ac1, .int .i64 row3, .int .i64 col3, .bool ar3, .bool ac3]))) := by
          have := ne_of k1 k17
          unfold Tab
          rw [ASt.set_ne this.1]
          exact (t1.set hb17').set hb19'
        refine fin _ t4 (Drop.trans (by repeat' (first | exact Drop.refl _ | with_reducible refine Drop.off ?_ (by assumption))) k2) b5 b15 b17 ⟨row1, col1, ar1, ac1⟩ ⟨row3, col3, ar3, ac3⟩ true ?_ ?_ ?_ _ ?_
        · simp (disch := first | assumption | omega | (simp only [List.length_append, List.length_cons, List.length_nil]; omega)) only [go_sem, reduceCtorEq, Nat.reduceEqDiff, Nat.reduceAdd, Nat.reduceSub, Nat.reduceMul, Nat.reduceLeDiff, Int.reduceLT, Int.reduceLE, Int.reduceEq, ↓reduceIte, Int.reduceNeg, Int.reduceAdd, Int.reduceSub, Int.reduceMul, true_imp_iff, forall_const, Nat.mul_one, Int.reduceToNat, Nat.reducePow, Int.reducePow, Bool.true_and, Bool.false_and, Bool.and_false, k5, p1, p7, p11]
        · simp (disch := first | assumption | omega | (simp only [List.length_append, List.length_cons, List.length_nil]; omega)) only [go_sem, reduceCtorEq, Nat.reduceEqDiff, Nat.reduceAdd, Nat.reduceSub, Nat.reduceMul, Nat.reduceLeDiff, Int.reduceLT, Int.reduceLE, Int.reduceEq, ↓reduceIte, Int.reduceNeg, Int.reduceAdd, Int.reduceSub, Int.reduceMul, true_imp_iff, forall_const, Nat.mul_one, Int.reduceToNat, Nat.reducePow, Int.reducePow, Bool.true_and, Bool.false_and, Bool.and_false, p5, p6, Ref.zero]
        · simp (disch := first | assumption | omega | (simp only [List.length_append, List.length_cons, List.length_nil]; omega)) only [go_sem, reduceCtorEq, Nat.reduceEqDiff, Nat.reduceAdd, Nat.reduceSub, Nat.reduceMul, Nat.reduceLeDiff, Int.reduceLT, Int.reduceLE, Int.reduceEq, ↓reduceIte, Int.reduceNeg, Int.reduceAdd, Int.reduceSub, Int.reduceMul, true_imp_iff, forall_const, Nat.mul_one, Int.reduceToNat, Nat.reducePow, Int.reducePow, Bool.true_and, Bool.false_and, Bool.and_false, Ref.zero]
        · simp (disch := first | assumption | omega | (simp only [List.length_append, List.length_cons, List.length_nil]; omega)) only [go_sem, reduceCtorEq, Nat.reduceEqDiff, Nat.reduceAdd, Nat.reduceSub, Nat.reduceMul, Nat.reduceLeDiff, Int.reduceLT, Int.reduceLE, Int.reduceEq, ↓reduceIte, Int.reduceNeg, Int.reduceAdd, Int.reduceSub, Int.reduceMul, true_imp_iff, forall_const, Nat.mul_one, Int.reduceToNat, Nat.reducePow, Int.reducePow, Bool.true_and, Bool.false_and, Bool.and_false, f2, f3, f5]
    · rw [if_pos (by simpa using z2)] at hA
      simp only [Prod.mk.injEq, Ref.zero, Ref.mk.injEq] at hA
      obtain ⟨⟨⟨rfl, rfl, rfl, rfl⟩, rfl, rfl, rfl, rfl⟩, rfl⟩ := hA
      simp (disch := first | assumption | omega | (simp only [List.length_append, List.length_cons, List.length_nil]; omega)) only [go_sem, reduceCtorEq, Nat.reduceEqDiff, Nat.reduceAdd, Nat.reduceSub, Nat.reduceMul, Nat.reduceLeDiff, Int.reduceLT, Int.reduceLE, Int.reduceEq, ↓reduceIte, Int.reduceNeg, Int.reduceAdd, Int.reduceSub, Int.reduceMul, true_imp_iff, forall_const, Nat.mul_one, Int.reduceToNat, Nat.reducePow, Int.reducePow, Bool.true_and, Bool.false_and, Bool.and_false, f0, f2, f3, f5, f9, f12, k5, k9, p1, p2, p3, p4, p5, p6, p7, p8, p9, p10, g1, g2, z1, hidx, z2, ←hG]
      refine fin _ (t1.set hb17') (Drop.trans (by repeat' (first | exact Drop.refl _ | with_reducible refine Drop.off ?_ (by assumption))) k2) b5 b15 b17 .zero .zero false ?_ ?_ ?_ _ ?_
      · simp (disch := first | assumption | omega | (simp only [List.length_append, List.length_cons, List.length_nil]; omega)) only [go_sem, reduceCtorEq, Nat.reduceEqDiff, Nat.reduceAdd, Nat.reduceSub, Nat.reduceMul, Nat.reduceLeDiff, Int.reduceLT, Int.reduceLE, Int.reduceEq, ↓reduceIte, Int.reduceNeg, Int.reduceAdd, Int.reduceSub, Int.reduceMul, true_imp_iff, forall_const, Nat.mul_one, Int.reduceToNat, Nat.reducePow, Int.reducePow, Bool.true_and, Bool.false_and, Bool.and_false, k5, p1, p7]
      · simp (disch := first | assumption | omega | (simp only [List.length_append, List.length_cons, List.length_nil]; omega)) only [go_sem, reduceCtorEq, Nat.reduceEqDiff, Nat.reduceAdd, Nat.reduceSub, Nat.reduceMul, Nat.reduceLeDiff, Int.reduceLT, Int.reduceLE, Int.reduceEq, ↓reduceIte, Int.reduceNeg, Int.reduceAdd, Int.reduceSub, Int.reduceMul, true_imp_iff, forall_const, Nat.mul_one, Int.reduceToNat, Nat.reducePow, Int.reducePow, Bool.true_and, Bool.false_and, Bool.and_false, p5, p6, Ref.zero]
      · simp (disch := first | assumption | omega | (simp only [List.length_append, List.length_cons, List.length_nil]; omega)) only [go_sem, reduceCtorEq, Nat.reduceEqDiff, Nat.reduceAdd, Nat.reduceSub, Nat.reduceMul, Nat.reduceLeDiff, Int.reduceLT, Int.reduceLE, Int.reduceEq, ↓reduceIte, Int.reduceNeg, Int.reduceAdd, Int.reduceSub, Int.reduceMul, true_imp_iff, forall_const, Nat.mul_one, Int.reduceToNat, Nat.reducePow, Int.reducePow, Bool.true_and, Bool.false_and, Bool.and_false, Ref.zero]
      · simp (disch := first | assumption | omega | (simp only [List.length_append, List.length_cons, List.length_nil]; omega)) only [go_sem, reduceCtorEq, Nat.reduceEqDiff, Nat.reduceAdd, Nat.reduceSub, Nat.reduceMul, Nat.reduceLeDiff, Int.reduceLT, Int.reduceLE, Int.reduceEq, ↓reduceIte, Int.reduceNeg, Int.reduceAdd, Int.reduceSub, Int.reduceMul, true_imp_iff, forall_const, Nat.mul_one, Int.reduceToNat, Nat.reducePow, Int.reducePow, Bool.true_and, Bool.false_and, Bool.and_false, f2, f3, f5]
  obtain ⟨⟨p, ok⟩, hA⟩ : ∃ A, (if (n : Int) = 0 ∨ (n : Int) < s.length then (Ref.zero, false) else (x, true)) = A := ⟨_, rfl⟩
  rw [hA] at h3
  dsimp only at h3
  clear h4 fin
  obtain ⟨row, col, ar, ac⟩ := r
  obtain ⟨row1, col1, ar1, ac1⟩ := x
  obtain ⟨row2, col2, ar2, ac2⟩ := p
  simp only [refAV] at h1 h2 h3
  dsimp only at mid hA
  simp (disch := first | assumption | omega | (simp only [List.length_append, List.length_cons, List.length_nil]; omega)) only [go_sem, reduceCtorEq, Nat.reduceEqDiff, Nat.reduceAdd, Nat.reduceSub, Nat.reduceMul, Nat.reduceLeDiff, Int.reduceLT, Int.reduceLE, Int.reduceEq, ↓reduceIte, Int.reduceNeg, Int.reduceAdd, Int.reduceSub, Int.reduceMul, true_imp_iff, forall_const, Nat.mul_one, Int.reduceToNat, Nat.reducePow, Int.reducePow, Bool.true_and, Bool.false_and, Bool.and_false, refAV, ←hF]
  refine boxC_by rfl fun b5 hb5 => ?_
  simp (disch := first | assumption | omega | (simp only [List.length_append, List.length_cons, List.length_nil]; omega)) only [go_sem, reduceCtorEq, Nat.reduceEqDiff, Nat.reduceAdd, Nat.reduceSub, Nat.reduceMul, Nat.reduceLeDiff, Int.reduceLT, Int.reduceLE, Int.reduceEq, ↓reduceIte, Int.reduceNeg, Int.reduceAdd, Int.reduceSub, Int.reduceMul, true_imp_iff, forall_const, Nat.mul_one, Int.reduceToNat, Nat.reducePow, Int.reducePow, Bool.true_and, Bool.false_and, Bool.and_false, ←hF]
  refine hc.use ?_
  simp (disch := first | assumption | omega | (simp only [List.length_append, List.length_cons, List.length_nil]; omega)) only [go_sem, reduceCtorEq, Nat.reduceEqDiff, Nat.reduceAdd, Nat.reduceSub, Nat.reduceMul, Nat.reduceLeDiff, Int.reduceLT, Int.reduceLE, Int.reduceEq, ↓reduceIte, Int.reduceNeg, Int.reduceAdd, Int.reduceSub, Int.reduceMul, true_imp_iff, forall_const, Nat.mul_one, Int.reduceToNat, Nat.reducePow, Int.reducePow, Bool.true_and, Bool.false_and, Bool.and_false, ←hF]
  refine h1.use ?_
  simp (disch := first | assumption | omega | (simp only [List.length_append, List.length_cons, List.length_nil]; omega)) only [go_sem, reduceCtorEq, Nat.reduceEqDiff, Nat.reduceAdd, Nat.reduceSub, Nat.reduceMul, Nat.reduceLeDiff, Int.reduceLT, Int.reduceLE, Int.reduceEq, ↓reduceIte, Int.reduceNeg, Int.reduceAdd, Int.reduceSub, Int.reduceMul, true_imp_iff, forall_const, Nat.mul_one, Int.reduceToNat, Nat.reducePow, Int.reducePow, Bool.true_and, Bool.false_and, Bool.and_false, ←hF]
  refine allocC_by fun b9 hb9 => ?_
  have t5 := ht.set (r := some (.obj [.int .i64 row, .int .i64 col, .bool ar, .bool ac])) hb5
  have t9 := t5.set (r := some (.obj [.int .i64 row1, .int .i64 col1, .bool ar1, .bool ac1])) hb9
  have hb9' := hb9
  repeat (with_reducible replace hb9 := set_none hb9; obtain ⟨_, _, hb9⟩ := hb9)
  simp (disch := first | assumption | omega | (simp only [List.length_append, List.length_cons, List.length_nil]; omega)) only [go_sem, reduceCtorEq, Nat.reduceEqDiff, Nat.reduceAdd, Nat.reduceSub, Nat.reduceMul, Nat.reduceLeDiff, Int.reduceLT, Int.reduceLE, Int.reduceEq, ↓reduceIte, Int.reduceNeg, Int.reduceAdd, Int.reduceSub, Int.reduceMul, true_imp_iff, forall_const, Nat.mul_one, Int.reduceToNat, Nat.reducePow, Int.reducePow, Bool.true_and, Bool.false_and, Bool.and_false, ←hF]
  refine h2.use ?_
  simp (disch := first | assumption | omega | (simp only [List.length_append, List.length_cons, List.length_nil]; omega)) only [go_sem, reduceCtorEq, Nat.reduceEqDiff, Nat.reduceAdd, Nat.reduceSub, Nat.reduceMul, Nat.reduceLeDiff, Int.reduceLT, Int.reduceLE, Int.reduceEq, ↓reduceIte, Int.reduceNeg, Int.reduceAdd, Int.reduceSub, Int.reduceMul, true_imp_iff, forall_const, Nat.mul_one, Int.reduceToNat, Nat.reducePow, Int.reducePow, Bool.true_and, Bool.false_and, Bool.and_false, ←hF]
  refine allocC_by fun b11 hb11 => ?_
  have t11 := t9.set (r := some (.obj [.int .i64 row1, .int .i64 col1, .bool ar1, .bool ac1])) hb11
  repeat (with_reducible replace hb11 := set_none hb11; obtain ⟨_, _, hb11⟩ := hb11)
  simp (disch := first | assumption | omega | (simp only [List.length_append, List.length_cons, List.length_nil]; omega)) only [go_sem, reduceCtorEq, Nat.reduceEqDiff, Nat.reduceAdd, Nat.reduceSub, Nat.reduceMul, Nat.reduceLeDiff, Int.reduceLT, Int.reduceLE, Int.reduceEq, ↓reduceIte, Int.reduceNeg, Int.reduceAdd, Int.reduceSub, Int.reduceMul, true_imp_iff, forall_const, Nat.mul_one, Int.reduceToNat, Nat.reducePow, Int.reducePow, Bool.true_and, Bool.false_and, Bool.and_false, ←hF]
  refine h3.use ?_
  simp (disch := first | assumption | omega | (simp only [List.length_append, List.length_cons, List.length_nil]; omega)) only [go_sem, reduceCtorEq, Nat.reduceEqDiff, Nat.reduceAdd, Nat.reduceSub, Nat.reduceMul, Nat.reduceLeDiff, Int.reduceLT, Int.reduceLE, Int.reduceEq, ↓reduceIte, Int.reduceNeg, Int.reduceAdd, Int.reduceSub, Int.reduceMul, true_imp_iff, forall_const, Nat.mul_one, Int.reduceToNat, Nat.reducePow, Int.reducePow, Bool.true_and, Bool.false_and, Bool.and_false, ←hF]
  refine allocC_by fun b13 hb13 => ?_
  have t13 := t11.set (r := some (.obj [.int .i64 row2, .int .i64 col2, .bool ar2, .bool ac2])) hb13
  repeat (with_reducible replace hb13 := set_none hb13; obtain ⟨_, _, hb13⟩ := hb13)
  simp (disch := first | assumption | omega | (simp only [List.length_append, List.length_cons, List.length_nil]; omega)) only [go_sem, reduceCtorEq, Nat.reduceEqDiff, Nat.reduceAdd, Nat.reduceSub, Nat.reduceMul, Nat.reduceLeDiff, Int.reduceLT, Int.reduceLE, Int.reduceEq, ↓reduceIte, Int.reduceNeg, Int.reduceAdd, Int.reduceSub, Int.reduceMul, true_imp_iff, forall_const, Nat.mul_one, Int.reduceToNat, Nat.reducePow, Int.reducePow, Bool.true_and, Bool.false_and, Bool.and_false, ←hF]
  refine aawake_ok.use ?_
  by_cases z : (n : Int) = 0 ∨ (n : Int) < s.length
  · rw [if_pos z] at hA
    simp only [Prod.mk.injEq, Ref.zero, Ref.mk.injEq] at hA
    obtain ⟨⟨rfl, rfl, rfl, rfl⟩, rfl⟩ := hA
    by_cases g1 : (0 : Int) < n
    · have g2 : ¬ (n : Int) = s.length := by omega
      simp (disch := first | assumption | omega | (simp only [List.length_append, List.length_cons, List.length_nil]; omega)) only [go_sem, reduceCtorEq, Nat.reduceEqDiff, Nat.reduceAdd, Nat.reduceSub, Nat.reduceMul, Nat.reduceLeDiff, Int.reduceLT, Int.reduceLE, Int.reduceEq, ↓reduceIte, Int.reduceNeg, Int.reduceAdd, Int.reduceSub, Int.reduceMul, true_imp_iff, forall_const, Nat.mul_one, Int.reduceToNat, Nat.reducePow, Int.reducePow, Bool.true_and, Bool.false_and, Bool.and_false, g1, g2, ←hF]
      refine mid _ t13 (by repeat' (first | exact Drop.refl _ | with_reducible refine Drop.off ?_ (by assumption))) b5 b9 (by assumption) ?_ ?_ _ ?_
      · simp (disch := first | assumption | omega | (simp only [List.length_append, List.length_cons, List.length_nil]; omega)) only [go_sem, reduceCtorEq, Nat.reduceEqDiff, Nat.reduceAdd, Nat.reduceSub, Nat.reduceMul, Nat.reduceLeDiff, Int.reduceLT, Int.reduceLE, Int.reduceEq, ↓reduceIte, Int.reduceNeg, Int.reduceAdd, Int.reduceSub, Int.reduceMul, true_imp_iff, forall_const, Nat.mul_one, Int.reduceToNat, Nat.reducePow, Int.reducePow, Bool.true_and, Bool.false_and, Bool.and_false]
      · simp (disch := first | assumption | omega | (simp only [List.length_append, List.length_cons, List.length_nil]; omega)) only [go_sem, reduceCtorEq, Nat.reduceEqDiff, Nat.reduceAdd, Nat.reduceSub, Nat.reduceMul, Nat.reduceLeDiff, Int.reduceLT, Int.reduceLE, Int.reduceEq, ↓reduceIte, Int.reduceNeg, Int.reduceAdd, Int.reduceSub, Int.reduceMul, true_imp_iff, forall_const, Nat.mul_one, Int.reduceToNat, Nat.reducePow, Int.reducePow, Bool.true_and, Bool.false_and, Bool.and_false]
      · simp (disch := first | assumption | omega | (simp only [List.length_append, List.length_cons, List.length_nil]; omega)) only [go_sem, reduceCtorEq, Nat.reduceEqDiff, Nat.reduceAdd, Nat.reduceSub, Nat.reduceMul, Nat.reduceLeDiff, Int.reduceLT, Int.reduceLE, Int.reduceEq, ↓reduceIte, Int.reduceNeg, Int.reduceAdd, Int.reduceSub, Int.reduceMul, true_imp_iff, forall_const, Nat.mul_one, Int.reduceToNat, Nat.reducePow, Int.reducePow, Bool.true_and, Bool.false_and, Bool.and_false]
    · simp (disch := first | assumption | omega | (simp only [List.length_append, List.length_cons, List.length_nil]; omega)) only [go_sem, reduceCtorEq, Nat.reduceEqDiff, Nat.reduceAdd, Nat.reduceSub, Nat.reduceMul, Nat.reduceLeDiff, Int.reduceLT, Int.reduceLE, Int.reduceEq, ↓reduceIte, Int.reduceNeg, Int.reduceAdd, Int.reduceSub, Int.reduceMul, true_imp_iff, forall_const, Nat.mul_one, Int.reduceToNat, Nat.reducePow, Int.reducePow, Bool.true_and, Bool.false_and, Bool.and_false, g1, ←hF]
      refine mid _ t13 (by repeat' (first | exact Drop.refl _ | with_reducible refine Drop.off ?_ (by assumption))) b5 b9 (by assumption) ?_ ?_ _ ?_
      · simp (disch := first | assumption | omega | (simp only [List.length_append, List.length_cons, List.length_nil]; omega)) only [go_sem, reduceCtorEq, Nat.reduceEqDiff, Nat.reduceAdd, Nat.reduceSub, Nat.reduceMul, Nat.reduceLeDiff, Int.reduceLT, Int.reduceLE, Int.reduceEq, ↓reduceIte, Int.reduceNeg, Int.reduceAdd, Int.reduceSub, Int.reduceMul, true_imp_iff, forall_const, Nat.mul_one, Int.reduceToNat, Nat.reducePow, Int.reducePow, Bool.true_and, Bool.false_and, Bool.and_false]
      · simp (disch := first | assumption | omega | (simp only [List.length_append, List.length_cons, List.length_nil]; omega)) only [go_sem, reduceCtorEq, Nat.reduceEqDiff, Nat.reduceAdd, Nat.reduceSub, Nat.reduceMul, Nat.reduceLeDiff, Int.reduceLT, Int.reduceLE, Int.reduceEq, ↓reduceIte, Int.reduceNeg, Int.reduceAdd, Int.reduceSub, Int.reduceMul, true_imp_iff, forall_const, Nat.mul_one, Int.reduceToNat, Nat.reducePow, Int.reducePow, Bool.true_and, Bool.false_and, Bool.and_false]
      · simp (disch := first | assumption | omega | (simp only [List.length_append, List.length_cons, List.length_nil]; omega)) only [go_sem, reduceCtorEq, Nat.reduceEqDiff, Nat.reduceAdd, Nat.reduceSub, Nat.reduceMul, Nat.reduceLeDiff, Int.reduceLT, Int.reduceLE, Int.reduceEq, ↓reduceIte, Int.reduceNeg, Int.reduceAdd, Int.reduceSub, Int.reduceMul, true_imp_iff, forall_const, Nat.mul_one, Int.reduceToNat, Nat.reducePow, Int.reducePow, Bool.true_and, Bool.false_and, Bool.and_false]
  · rw [if_neg z] at hA
    simp only [Prod.mk.injEq, Ref.mk.injEq] at hA
    obtain ⟨⟨rfl, rfl, rfl, rfl⟩, rfl⟩ := hA
    have g1 : (0 : Int) < n := by omega
    have g2 : (n : Int) = s.length := by omega
    simp (disch := first | assumption | omega | (simp only [List.length_append, List.length_cons, List.length_nil]; omega)) only [go_sem, reduceCtorEq, Nat.reduceEqDiff, Nat.reduceAdd, Nat.reduceSub, Nat.reduceMul, Nat.reduceLeDiff, Int.reduceLT, Int.reduceLE, Int.reduceEq, ↓reduceIte, Int.reduceNeg, Int.reduceAdd, Int.reduceSub, Int.reduceMul, true_imp_iff, forall_const, Nat.mul_one, Int.reduceToNat, Nat.reducePow, Int.reducePow, Bool.true_and, Bool.false_and, Bool.and_false, g1, g2, ←hF]
    refine mid _ t13 (by repeat' (first | exact Drop.refl _ | with_reducible refine Drop.off ?_ (by assumption))) b5 b9 (by assumption) ?_ ?_ _ ?_
    · simp (disch := first | assumption | omega | (simp only [List.length_append, List.length_cons, List.length_nil]; omega)) only [go_sem, reduceCtorEq, Nat.reduceEqDiff, Nat.reduceAdd, Nat.reduceSub, Nat.reduceMul, Nat.reduceLeDiff, Int.reduceLT, Int.reduceLE, Int.reduceEq, ↓reduceIte, Int.reduceNeg, Int.reduceAdd, Int.reduceSub, Int.reduceMul, true_imp_iff, forall_const, Nat.mul_one, Int.reduceToNat, Nat.reducePow, Int.reducePow, Bool.true_and, Bool.false_and, Bool.and_false]
    · simp (disch := first | assumption | omega | (simp only [List.length_append, List.length_cons, List.length_nil]; omega)) only [go_sem, reduceCtorEq, Nat.reduceEqDiff, Nat.reduceAdd, Nat.reduceSub, Nat.reduceMul, Nat.reduceLeDiff, Int.reduceLT, Int.reduceLE, Int.reduceEq, ↓reduceIte, Int.reduceNeg, Int.reduceAdd, Int.reduceSub, Int.reduceMul, true_imp_iff, forall_const, Nat.mul_one, Int.reduceToNat, Nat.reducePow, Int.reducePow, Bool.true_and, Bool.false_and, Bool.and_false]
    · simp (disch := first | assumption | omega | (simp only [List.length_append, List.length_cons, List.length_nil]; omega)) only [go_sem, reduceCtorEq, Nat.reduceEqDiff, Nat.reduceAdd, Nat.reduceSub, Nat.reduceMul, Nat.reduceLeDiff, Int.reduceLT, Int.reduceLE, Int.reduceEq, ↓reduceIte, Int.reduceNeg, Int.reduceAdd, Int.reduceSub, Int.reduceMul, true_imp_iff, forall_const, Nat.mul_one, Int.reduceToNat, Nat.reducePow, Int.reducePow, Bool.true_and, Bool.false_and, Bool.and_false, g2]
end Go.A
