/- A builder beside other objects; a text that it takes. · Levels, signs, names, walked. -/
import Derived.Test.YtkfcfpnkgljdmaaDoorEa
import Derived.Test.YtkfcfpnkgljdmaaDoorEq
import Derived.Test.YtkfcfpnkgljdmaaDoorWb
import Derived.Test.YtkfcfpnkgljdmaaDoorHf
import Derived.Test.YtkfcfpnkgljdmaaDoorZg
import Derived.Test.YtkfcfpnkgljdmaaDoorCodeEb
import Derived.Test.YtkfcfpnkgljdmaaDoorCodeZe
namespace Go.A
open Go.Proofs Go.Lib
set_option maxRecDepth 100000
set_option linter.unusedSimpArgs false
set_option linter.unusedVariables false

section
variable {T U : TypeId} {σ0 σ : ASt} {b c x : Nat} {l : List UInt8} {r : Role}
theorem BW.role (h : BW T U σ0 b l σ) : σ b ≠ none := by
  rcases h with ⟨_, rfl⟩ | ⟨_, k, hg⟩
  · rw [ASt.set_same]; simp
  · rw [hg.at (ASt.set_same _ _ _)]; simp
theorem BW.at (h : BW T U σ0 b l σ) (hx : x ≠ b) (h0 : σ0 x = some r) : σ x = some r := by
  rcases h with ⟨_, rfl⟩ | ⟨_, k, hg⟩
  · rw [ASt.set_ne hx]; exact h0
  · exact hg.at (by rw [ASt.set_ne hx]; exact h0)
theorem BW.add (h : BW T U σ0 b l σ) (hc : σ c = none) : BW T U (σ0.set c (some r)) b l (σ.set c (some r)) ∧ c ≠ b ∧ σ0 c = none := by
  have hcb : c ≠ b := by rintro rfl; exact h.role hc
  rcases h with ⟨h0, rfl⟩ | ⟨h0, k, h1 | ⟨t, h1, h2, rfl⟩⟩
  · rw [ASt.set_ne hcb] at hc
    exact ⟨.inl ⟨h0, set_swap (Ne.symm hcb)⟩, hcb, hc⟩
  · obtain ⟨h1, h2, rfl⟩ := h1
    rw [ASt.set_ne hcb] at hc
    exact ⟨.inr ⟨h0, k, .inl ⟨h1, h2, set_swap (Ne.symm hcb)⟩⟩, hcb, hc⟩
  · obtain ⟨h3, h4, hc⟩ := set_none hc
    rw [ASt.set_ne hcb] at hc
    obtain ⟨h5, h6, h7⟩ := set_none h2
    refine ⟨.inr ⟨h0, k, .inr ⟨t, h1, ?_, ?_⟩⟩, hcb, hc⟩
    · rw [ASt.set_ne h5, ASt.set_ne (Ne.symm h3)]; exact h7
    · rw [set_swap h4, set_swap (Ne.symm hcb)]
theorem BW.off (h : BW T U (σ0.set c (some r)) b l σ) (hcb : c ≠ b) (hc : σ0 c = none) : ∃ σ', Drop σ σ' ∧ BW T U σ0 b l σ' := by
  rcases h with ⟨h0, rfl⟩ | ⟨h0, k, h1 | ⟨t, h1, h2, rfl⟩⟩
  · refine ⟨_, ?_, .inl ⟨h0, rfl⟩⟩
    rw [set_swap hcb]
    exact Drop.set (by rw [ASt.set_ne hcb]; exact hc)
  · obtain ⟨h1, h2, rfl⟩ := h1
    refine ⟨_, ?_, .inr ⟨h0, k, .inl ⟨h1, h2, rfl⟩⟩⟩
    rw [set_swap hcb]
    exact Drop.set (by rw [ASt.set_ne hcb]; exact hc)
  · obtain ⟨h3, h4, h5⟩ := set_none h2
    obtain ⟨h6, h7, h8⟩ := set_none h5
    refine ⟨(σ0.set b (some (.obj [.ptr b 0, .sl k (bytesAV l)]))).set t (some (.tok (l.length * 1))), ?_, .inr ⟨h0, k, .inr ⟨t, h1, ?_, rfl⟩⟩⟩
    · rw [set_swap hcb, set_swap h7]
      exact Drop.set (by rw [ASt.set_ne h7, ASt.set_ne hcb]; exact hc)
    · rw [ASt.set_ne h3]; exact h8
end
theorem appsB_by {σ σ0 : ASt} {k : SK} {l m : List UInt8} {K : AV → ASt → Prop} (h : GT σ0 σ k l.length 1) (hl : l.length + m.length ≤ 4611686018427)
    (hK : ∀ k' σ', GT σ0 σ' k' (l ++ m).length 1 → K (.sl k' (bytesAV (l ++ m))) σ') : appsC 5 (.sl k (bytesAV l)) (.str m) σ K := by
  refine appsCT_by (by rw [bytesAV_len]; exact h) (by rw [bytesAV_len]; omega) fun k' σ' hg => ?_
  rw [bytesAV_app]
  rw [bytesAV_len] at hg
  exact hK k' σ' (by rw [List.length_append]; exact hg)
theorem writes_ok {σ0 σ : ASt} {b : Nat} {l : List UInt8} (h : BD σ0 b l σ) (m : List UInt8) (hl : l.length + m.length ≤ 1000000) :
    ACalls Tryd.prog 23 [.ptr b 0, .str m] σ fun v σ' => v = .tuple [.int .i64 m.length, .nili] ∧ ((l ++ m = [] ∧ ∃ k, GT (σ0.set b (some (.obj [.ptr b 0, .sl k []]))) σ' k 0 1) ∨ BD σ0 b (l ++ m) σ') := by
  refine a23 (by simp) ?_
  simp (disch := first | assumption | omega | (simp only [List.length_append, List.length_cons, List.length_nil]; omega)) only [go_sem, reduceCtorEq, Nat.reduceEqDiff, Nat.reduceAdd, Nat.reduceSub, Nat.reduceMul, Nat.reduceLeDiff, Int.reduceLT, Int.reduceLE, Int.reduceEq, ↓reduceIte, Int.reduceNeg, Int.reduceAdd, Int.reduceSub, Int.reduceMul, true_imp_iff, forall_const, Nat.mul_one, Int.reduceToNat, Nat.reducePow, Int.reducePow, Bool.true_and, Bool.false_and, Bool.and_false]
  refine (cc_ok h).mono ?_
  rintro v σ1 ⟨rfl, k, hg⟩
  have hb := hg.at (ASt.set_same _ _ _)
  simp (disch := first | assumption | omega | (simp only [List.length_append, List.length_cons, List.length_nil]; omega)) only [go_sem, reduceCtorEq, Nat.reduceEqDiff, Nat.reduceAdd, Nat.reduceSub, Nat.reduceMul, Nat.reduceLeDiff, Int.reduceLT, Int.reduceLE, Int.reduceEq, ↓reduceIte, Int.reduceNeg, Int.reduceAdd, Int.reduceSub, Int.reduceMul, true_imp_iff, forall_const, Nat.mul_one, Int.reduceToNat, Nat.reducePow, Int.reducePow, Bool.true_and, Bool.false_and, Bool.and_false, hb]
  refine appsB_by hg (by omega) fun k' σ' hg' => ?_
  have hb' := hg'.at (ASt.set_same _ _ _)
  simp (disch := first | assumption | omega | (simp only [List.length_append, List.length_cons, List.length_nil]; omega)) only [go_sem, reduceCtorEq, Nat.reduceEqDiff, Nat.reduceAdd, Nat.reduceSub, Nat.reduceMul, Nat.reduceLeDiff, Int.reduceLT, Int.reduceLE, Int.reduceEq, ↓reduceIte, Int.reduceNeg, Int.reduceAdd, Int.reduceSub, Int.reduceMul, true_imp_iff, forall_const, Nat.mul_one, Int.reduceToNat, Nat.reducePow, Int.reducePow, Bool.true_and, Bool.false_and, Bool.and_false, hb']
  refine retC_by (Drop.refl _) (.refl _) ⟨rfl, ?_⟩
  by_cases he : l ++ m = []
  · refine .inl ⟨he, k', ?_⟩
    have := hg'.obj (r' := .obj [.ptr b 0, .sl k' (bytesAV (l ++ m))])
    rw [he] at this
    rw [he]
    exact this
  · exact .inr (.inr ⟨he, k', hg'.obj⟩)
theorem writes1_ok {σ0 σ : ASt} {b : Nat} {l : List UInt8} (h : BD σ0 b l σ) (m : List UInt8) (hm : m ≠ []) (hl : l.length + m.length ≤ 1000000) :
    ACalls Tryd.prog 23 [.ptr b 0, .str m] σ fun v σ' => v = .tuple [.int .i64 m.length, .nili] ∧ BD σ0 b (l ++ m) σ' :=
  (writes_ok h m hl).mono fun _ _ ⟨h1, h2⟩ => ⟨h1, h2.resolve_left fun h => hm (List.append_eq_nil_iff.1 h.1).2⟩
theorem esigns_ok : Pure Tryd.prog 33 [] (.sl .shr (signL.map AV.str)) := by
  intro σ
  refine a33 (by simp) ?_
  simp (disch := first | assumption | omega | (simp only [List.length_append, List.length_cons, List.length_nil]; omega)) only [go_sem, reduceCtorEq, Nat.reduceEqDiff, Nat.reduceAdd, Nat.reduceSub, Nat.reduceMul, Nat.reduceLeDiff, Int.reduceLT, Int.reduceLE, Int.reduceEq, ↓reduceIte, Int.reduceNeg, Int.reduceAdd, Int.reduceSub, Int.reduceMul, true_imp_iff, forall_const, Nat.mul_one, Int.reduceToNat, Nat.reducePow, Int.reducePow, Bool.true_and, Bool.false_and, Bool.and_false]
  exact retC_by (by repeat' (first | exact Drop.refl _ | with_reducible refine Drop.off ?_ (by assumption))) (.sl _ _) ⟨rfl, rfl⟩
theorem tenames_ok : Pure Tryd.prog 44 [] (.sl .shr (errL.map AV.str)) := by
  intro σ
  refine a44 (by simp) ?_
  simp (disch := first | assumption | omega | (simp only [List.length_append, List.length_cons, List.length_nil]; omega)) only [go_sem, reduceCtorEq, Nat.reduceEqDiff, Nat.reduceAdd, Nat.reduceSub, Nat.reduceMul, Nat.reduceLeDiff, Int.reduceLT, Int.reduceLE, Int.reduceEq, ↓reduceIte, Int.reduceNeg, Int.reduceAdd, Int.reduceSub, Int.reduceMul, true_imp_iff, forall_const, Nat.mul_one, Int.reduceToNat, Nat.reducePow, Int.reducePow, Bool.true_and, Bool.false_and, Bool.and_false]
  exact retC_by (by repeat' (first | exact Drop.refl _ | with_reducible refine Drop.off ?_ (by assumption))) (.sl _ _) ⟨rfl, rfl⟩
theorem level_ok (op : Int) (h0 : -1000 ≤ op) (h1 : op ≤ 1000) : Pure Tryd.prog 32 [.int .i64 op] (.int .i64 (levelP op)) := by
  intro σ
  obtain ⟨q, hq⟩ : ∃ q, levelP op = q := ⟨_, rfl⟩
  rw [hq]
  unfold levelP at hq
  refine a32 (by simp) ?_
  by_cases h7 : op = 7
  · rw [if_pos (.inl h7)] at hq
    subst hq
    simp (disch := first | assumption | omega | (simp only [List.length_append, List.length_cons, List.length_nil]; omega)) only [go_sem, reduceCtorEq, Nat.reduceEqDiff, Nat.reduceAdd, Nat.reduceSub, Nat.reduceMul, Nat.reduceLeDiff, Int.reduceLT, Int.reduceLE, Int.reduceEq, ↓reduceIte, Int.reduceNeg, Int.reduceAdd, Int.reduceSub, Int.reduceMul, true_imp_iff, forall_const, Nat.mul_one, Int.reduceToNat, Nat.reducePow, Int.reducePow, Bool.true_and, Bool.false_and, Bool.and_false, h7]
    exact retC_by (by repeat' (first | exact Drop.refl _ | with_reducible refine Drop.off ?_ (by assumption))) (.refl _) ⟨rfl, rfl⟩
  by_cases h8 : op = 8
  · rw [if_pos (.inr h8)] at hq
    subst hq
    simp (disch := first | assumption | omega | (simp only [List.length_append, List.length_cons, List.length_nil]; omega)) only [go_sem, reduceCtorEq, Nat.reduceEqDiff, Nat.reduceAdd, Nat.reduceSub, Nat.reduceMul, Nat.reduceLeDiff, Int.reduceLT, Int.reduceLE, Int.reduceEq, ↓reduceIte, Int.reduceNeg, Int.reduceAdd, Int.reduceSub, Int.reduceMul, true_imp_iff, forall_const, Nat.mul_one, Int.reduceToNat, Nat.reducePow, Int.reducePow, Bool.true_and, Bool.false_and, Bool.and_false, h8]
    exact retC_by (by repeat' (first | exact Drop.refl _ | with_reducible refine Drop.off ?_ (by assumption))) (.refl _) ⟨rfl, rfl⟩
  rw [if_neg (by omega)] at hq
  by_cases h9 : op = 9
  · rw [if_pos h9] at hq
    subst hq
    simp (disch := first | assumption | omega | (simp only [List.length_append, List.length_cons, List.length_nil]; omega)) only [go_sem, reduceCtorEq, Nat.reduceEqDiff, Nat.reduceAdd, Nat.reduceSub, Nat.reduceMul, Nat.reduceLeDiff, Int.reduceLT, Int.reduceLE, Int.reduceEq, ↓reduceIte, Int.reduceNeg, Int.reduceAdd, Int.reduceSub, Int.reduceMul, true_imp_iff, forall_const, Nat.mul_one, Int.reduceToNat, Nat.reducePow, Int.reducePow, Bool.true_and, Bool.false_and, Bool.and_false, h9]
    exact retC_by (by repeat' (first | exact Drop.refl _ | with_reducible refine Drop.off ?_ (by assumption))) (.refl _) ⟨rfl, rfl⟩
  rw [if_neg h9] at hq
  by_cases ha : op < 10
  · rw [if_pos (.inl ha)] at hq
    subst hq
    simp (disch := first | assumption | omega | (simp only [List.length_append, List.length_cons, List.length_nil]; omega)) only [go_sem, reduceCtorEq, Nat.reduceEqDiff, Nat.reduceAdd, Nat.reduceSub, Nat.reduceMul, Nat.reduceLeDiff, Int.reduceLT, Int.reduceLE, Int.reduceEq, ↓reduceIte, Int.reduceNeg, Int.reduceAdd, Int.reduceSub, Int.reduceMul, true_imp_iff, forall_const, Nat.mul_one, Int.reduceToNat, Nat.reducePow, Int.reducePow, Bool.true_and, Bool.false_and, Bool.and_false, h7, h8, h9, ha]
    exact retC_by (by repeat' (first | exact Drop.refl _ | with_reducible refine Drop.off ?_ (by assumption))) (.refl _) ⟨rfl, rfl⟩
  by_cases hb : 22 ≤ op
  · rw [if_pos (.inr hb)] at hq
    subst hq
    simp (disch := first | assumption | omega | (simp only [List.length_append, List.length_cons, List.length_nil]; omega)) only [go_sem, reduceCtorEq, Nat.reduceEqDiff, Nat.reduceAdd, Nat.reduceSub, Nat.reduceMul, Nat.reduceLeDiff, Int.reduceLT, Int.reduceLE, Int.reduceEq, ↓reduceIte, Int.reduceNeg, Int.reduceAdd, Int.reduceSub, Int.reduceMul, true_imp_iff, forall_const, Nat.mul_one, Int.reduceToNat, Nat.reducePow, Int.reducePow, Bool.true_and, Bool.false_and, Bool.and_false, h7, h8, h9, ha, hb]
    exact retC_by (by repeat' (first | exact Drop.refl _ | with_reducible refine Drop.off ?_ (by assumption))) (.refl _) ⟨rfl, rfl⟩
  rw [if_neg (by omega)] at hq
  have hc : op = 10 ∨ op = 11 ∨ op = 12 ∨ op = 13 ∨ op = 14 ∨ op = 15 ∨ op = 16 ∨ op = 17 ∨ op = 18 ∨ op = 19 ∨ op = 20 ∨ op = 21 := by omega
  rcases hc with rfl | rfl | rfl | rfl | rfl | rfl | rfl | rfl | rfl | rfl | rfl | rfl
  all_goals
    simp at hq
    subst hq
    simp (disch := first | assumption | omega | (simp only [List.length_append, List.length_cons, List.length_nil]; omega)) only [go_sem, reduceCtorEq, Nat.reduceEqDiff, Nat.reduceAdd, Nat.reduceSub, Nat.reduceMul, Nat.reduceLeDiff, Int.reduceLT, Int.reduceLE, Int.reduceEq, ↓reduceIte, Int.reduceNeg, Int.reduceAdd, Int.reduceSub, Int.reduceMul, true_imp_iff, forall_const, Nat.mul_one, Int.reduceToNat, Nat.reducePow, Int.reducePow, Bool.true_and, Bool.false_and, Bool.and_false]
    exact retC_by (by repeat' (first | exact Drop.refl _ | with_reducible refine Drop.off ?_ (by assumption))) (.refl _) ⟨rfl, rfl⟩
theorem truth_ok (b : Bool) : Pure Tryd.prog 26 [.bool b] (.str (truthP b)) := by
  intro σ
  refine a26 (by simp) ?_
  cases b <;> simp (disch := first | assumption | omega | (simp only [List.length_append, List.length_cons, List.length_nil]; omega)) only [go_sem, reduceCtorEq, Nat.reduceEqDiff, Nat.reduceAdd, Nat.reduceSub, Nat.reduceMul, Nat.reduceLeDiff, Int.reduceLT, Int.reduceLE, Int.reduceEq, ↓reduceIte, Int.reduceNeg, Int.reduceAdd, Int.reduceSub, Int.reduceMul, true_imp_iff, forall_const, Nat.mul_one, Int.reduceToNat, Nat.reducePow, Int.reducePow, Bool.true_and, Bool.false_and, Bool.and_false]
  all_goals exact retC_by (by repeat' (first | exact Drop.refl _ | with_reducible refine Drop.off ?_ (by assumption))) (.refl _) ⟨rfl, rfl⟩
end Go.A
