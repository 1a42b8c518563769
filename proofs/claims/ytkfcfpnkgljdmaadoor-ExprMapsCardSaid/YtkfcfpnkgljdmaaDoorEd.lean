/- A tree's text, walked. -/
import Derived.Test.YtkfcfpnkgljdmaaDoorEc
import Derived.Test.YtkfcfpnkgljdmaaDoorCodeEd
namespace Go.A
open Go.Proofs Go.Lib
set_option maxRecDepth 100000
set_option linter.unusedSimpArgs false
set_option linter.unusedVariables false

theorem BD.tab {σ0 σ : ASt} {b : Nat} {l : List UInt8} (h : BD σ0 b l σ) (hb : σ0 b = none) (hT : Tab σ0) : Tab σ := h.at (by intro e; unfold Tab at hT; rw [e, hb] at hT; cases hT) hT
theorem BD.maxL {σ0 σ : ASt} {b : Nat} {l : List UInt8} (h : BD σ0 b l σ) (hb : σ0 b = none) (hM : MaxL σ0) : MaxL σ := by
  obtain ⟨m, hm⟩ := hM
  exact ⟨m, h.at (by intro e; rw [e, hb] at hm; cases hm) hm⟩
theorem MaxL.set {σ : ASt} {b : Nat} {r : Option Role} (h : MaxL σ) (hb : σ b = none) : MaxL (σ.set b r) := by
  obtain ⟨m, hm⟩ := h
  exact ⟨m, by rw [ASt.set_ne]; exact hm; intro e; rw [e, hb] at hm; cases hm⟩
/-- A tree's text is written to a builder. -/
def SpellOk (n : Nd) : Prop := ∀ (σ0 σ : ASt) (b : Nat) (l : List UInt8), BD σ0 b l σ → σ0 b = none → Tab σ0 → MaxL σ0 → l.length + n.spell.length ≤ 900000 →
    ACalls Tryd.prog 18 [.ptr b 0, n.av] σ fun v σ' => v = .tuple [] ∧ BD σ0 b (l ++ n.spell) σ'
theorem inside_ok {n : Nd} (hs : SpellOk n) (ho : 1 ≤ n.op ∧ n.op ≤ 23) (least : Int) {σ0 σ : ASt} {b : Nat} {l : List UInt8} (h : BD σ0 b l σ) (hb : σ0 b = none) (hT : Tab σ0) (hM : MaxL σ0) (hl : l.length + (insT least n.op n.spell).length ≤ 900000) :
    ACalls Tryd.prog 31 [.ptr b 0, n.av, .int .i64 least] σ fun v σ' => v = .tuple [] ∧ BD σ0 b (l ++ insT least n.op n.spell) σ' := by
  have hL := level_ok n.op (by omega) (by omega)
  have hS : ∀ {σ0 σ : ASt} {b : Nat} {l : List UInt8}, BD σ0 b l σ → σ0 b = none → Tab σ0 → MaxL σ0 → l.length + n.spell.length ≤ 900000 →
    ACalls Tryd.prog 18 [.ptr b 0, n.av] σ fun v σ' => v = .tuple [] ∧ BD σ0 b (l ++ n.spell) σ' := fun {_ _ _ _} => hs _ _ _ _
  clear hs
  obtain ⟨op, m, s, a, d, kids⟩ := n
  rw [Nd.av_cs] at hS ⊢
  generalize (Nd.mk op m s a d kids).spell = t at *
  simp only [Nd.op] at hL hl ho ⊢
  generalize kids.map Nd.av = L at *
  refine a31 (by simp) ?_
  simp (disch := first | assumption | omega | (simp only [List.length_append, List.length_cons, List.length_nil]; omega)) only [go_sem, reduceCtorEq, Nat.reduceEqDiff, Nat.reduceAdd, Nat.reduceSub, Nat.reduceMul, Nat.reduceLeDiff, Int.reduceLT, Int.reduceLE, Int.reduceEq, ↓reduceIte, Int.reduceNeg, Int.reduceAdd, Int.reduceSub, Int.reduceMul, true_imp_iff, forall_const, Nat.mul_one, Int.reduceToNat, Nat.reducePow, Int.reducePow, Bool.true_and, Bool.false_and, Bool.and_false]
  refine boxC_by rfl fun c hc => ?_
  obtain ⟨hB, hcb, hc0⟩ := h.add hc (r := .obj (Nd.cs op m s a d L))
  have hb1 : (σ0.set c (some (.obj (Nd.cs op m s a d L)))) b = none := by rw [ASt.set_ne (Ne.symm hcb)]; exact hb
  have hT1 := hT.set hc0 (r := some (.obj (Nd.cs op m s a d L)))
  have hM1 := hM.set hc0 (r := some (.obj (Nd.cs op m s a d L)))
  have hcell : ∀ {l' : List UInt8} {σ1 : ASt}, BD (σ0.set c (some (.obj (Nd.cs op m s a d L)))) b l' σ1 → σ1 c = some (.obj (Nd.cs op m s a d L)) := fun h => h.at hcb (ASt.set_same _ _ _)
  have hoff : ∀ {l' : List UInt8} {σ1 : ASt}, BD (σ0.set c (some (.obj (Nd.cs op m s a d L)))) b l' σ1 → ∃ σ', Drop σ1 σ' ∧ BD σ0 b l' σ' := fun h => h.off hcb hc0
  have hc1 := hcell hB
  rw [cells_agg]
  generalize σ0.set c (some (.obj (Nd.cs op m s a d L))) = τ at hB hb1 hT1 hM1 hcell hoff
  generalize σ.set c (some (.obj (Nd.cs op m s a d L))) = σ1 at hB hc1 ⊢
  unfold insT at hl ⊢
  by_cases hlv : least ≤ levelP op
  · rw [if_pos hlv] at hl ⊢
    generalize levelP op = lv at *
    simp (disch := first | assumption | omega | (simp only [List.length_append, List.length_cons, List.length_nil]; omega)) only [go_sem, reduceCtorEq, Nat.reduceEqDiff, Nat.reduceAdd, Nat.reduceSub, Nat.reduceMul, Nat.reduceLeDiff, Int.reduceLT, Int.reduceLE, Int.reduceEq, ↓reduceIte, Int.reduceNeg, Int.reduceAdd, Int.reduceSub, Int.reduceMul, true_imp_iff, forall_const, Nat.mul_one, Int.reduceToNat, Nat.reducePow, Int.reducePow, Bool.true_and, Bool.false_and, Bool.and_false, hc1]
    refine hL.use ?_
    simp (disch := first | assumption | omega | (simp only [List.length_append, List.length_cons, List.length_nil]; omega)) only [go_sem, reduceCtorEq, Nat.reduceEqDiff, Nat.reduceAdd, Nat.reduceSub, Nat.reduceMul, Nat.reduceLeDiff, Int.reduceLT, Int.reduceLE, Int.reduceEq, ↓reduceIte, Int.reduceNeg, Int.reduceAdd, Int.reduceSub, Int.reduceMul, true_imp_iff, forall_const, Nat.mul_one, Int.reduceToNat, Nat.reducePow, Int.reducePow, Bool.true_and, Bool.false_and, Bool.and_false, hc1, hlv]
    refine (hS hB hb1 hT1 hM1 hl).mono ?_
    rintro v σ2 ⟨rfl, hB2⟩
    simp (disch := first | assumption | omega | (simp only [List.length_append, List.length_cons, List.length_nil]; omega)) only [go_sem, reduceCtorEq, Nat.reduceEqDiff, Nat.reduceAdd, Nat.reduceSub, Nat.reduceMul, Nat.reduceLeDiff, Int.reduceLT, Int.reduceLE, Int.reduceEq, ↓reduceIte, Int.reduceNeg, Int.reduceAdd, Int.reduceSub, Int.reduceMul, true_imp_iff, forall_const, Nat.mul_one, Int.reduceToNat, Nat.reducePow, Int.reducePow, Bool.true_and, Bool.false_and, Bool.and_false]
    obtain ⟨σ3, hd, hB3⟩ := hoff hB2
    exact retC_by hd (.refl _) ⟨rfl, hB3⟩
  · rw [if_neg hlv] at hl ⊢
    generalize levelP op = lv at *
    simp only [List.length_append, List.length_cons, List.length_nil] at hl
    simp (disch := first | assumption | omega | (simp only [List.length_append, List.length_cons, List.length_nil]; omega)) only [go_sem, reduceCtorEq, Nat.reduceEqDiff, Nat.reduceAdd, Nat.reduceSub, Nat.reduceMul, Nat.reduceLeDiff, Int.reduceLT, Int.reduceLE, Int.reduceEq, ↓reduceIte, Int.reduceNeg, Int.reduceAdd, Int.reduceSub, Int.reduceMul, true_imp_iff, forall_const, Nat.mul_one, Int.reduceToNat, Nat.reducePow, Int.reducePow, Bool.true_and, Bool.false_and, Bool.and_false, hc1]
    refine hL.use ?_
    simp (disch := first | assumption | omega | (simp only [List.length_append, List.length_cons, List.length_nil]; omega)) only [go_sem, reduceCtorEq, Nat.reduceEqDiff, Nat.reduceAdd, Nat.reduceSub, Nat.reduceMul, Nat.reduceLeDiff, Int.reduceLT, Int.reduceLE, Int.reduceEq, ↓reduceIte, Int.reduceNeg, Int.reduceAdd, Int.reduceSub, Int.reduceMul, true_imp_iff, forall_const, Nat.mul_one, Int.reduceToNat, Nat.reducePow, Int.reducePow, Bool.true_and, Bool.false_and, Bool.and_false, hc1, hlv]
    refine (writeByte_ok hB 40 (by omega)).mono ?_
    rintro v σ2 ⟨rfl, hB2⟩
    have hc2 := hcell hB2
    simp (disch := first | assumption | omega | (simp only [List.length_append, List.length_cons, List.length_nil]; omega)) only [go_sem, reduceCtorEq, Nat.reduceEqDiff, Nat.reduceAdd, Nat.reduceSub, Nat.reduceMul, Nat.reduceLeDiff, Int.reduceLT, Int.reduceLE, Int.reduceEq, ↓reduceIte, Int.reduceNeg, Int.reduceAdd, Int.reduceSub, Int.reduceMul, true_imp_iff, forall_const, Nat.mul_one, Int.reduceToNat, Nat.reducePow, Int.reducePow, Bool.true_and, Bool.false_and, Bool.and_false, hc2]
    refine (hS hB2 hb1 hT1 hM1 (by simp only [List.length_append, List.length_cons, List.length_nil]; omega)).mono ?_
    rintro v σ3 ⟨rfl, hB3⟩
    simp (disch := first | assumption | omega | (simp only [List.length_append, List.length_cons, List.length_nil]; omega)) only [go_sem, reduceCtorEq, Nat.reduceEqDiff, Nat.reduceAdd, Nat.reduceSub, Nat.reduceMul, Nat.reduceLeDiff, Int.reduceLT, Int.reduceLE, Int.reduceEq, ↓reduceIte, Int.reduceNeg, Int.reduceAdd, Int.reduceSub, Int.reduceMul, true_imp_iff, forall_const, Nat.mul_one, Int.reduceToNat, Nat.reducePow, Int.reducePow, Bool.true_and, Bool.false_and, Bool.and_false]
    refine (writeByte_ok hB3 41 (by simp only [List.length_append, List.length_cons, List.length_nil]; omega)).mono ?_
    rintro v σ4 ⟨rfl, hB4⟩
    simp (disch := first | assumption | omega | (simp only [List.length_append, List.length_cons, List.length_nil]; omega)) only [go_sem, reduceCtorEq, Nat.reduceEqDiff, Nat.reduceAdd, Nat.reduceSub, Nat.reduceMul, Nat.reduceLeDiff, Int.reduceLT, Int.reduceLE, Int.reduceEq, ↓reduceIte, Int.reduceNeg, Int.reduceAdd, Int.reduceSub, Int.reduceMul, true_imp_iff, forall_const, Nat.mul_one, Int.reduceToNat, Nat.reducePow, Int.reducePow, Bool.true_and, Bool.false_and, Bool.and_false]
    obtain ⟨σ5, hd, hB5⟩ := hoff hB4
    refine retC_by hd (.refl _) ⟨rfl, ?_⟩
    have e : l ++ 40 :: (t ++ [41]) = l ++ [40] ++ t ++ [41] := by simp
    rw [e]; exact hB5
theorem textD_ne (n : Int) : textD n ≠ [] := by
  unfold textD
  have := dd_len_pos (n.natAbs / 10000)
  intro h
  rw [List.append_eq_nil_iff, List.append_eq_nil_iff] at h
  exact this h.2.1
theorem failT_ne {n : Int} (h1 : 1 ≤ n.tdiv 10000) (h2 : n.tdiv 10000 ≤ 7) : failT 4 n ≠ [] := by
  unfold failT
  generalize n.tdiv 10000 = i at *
  rw [if_neg (by omega)]
  have hc : i = 1 ∨ i = 2 ∨ i = 3 ∨ i = 4 ∨ i = 5 ∨ i = 6 ∨ i = 7 := by omega
  rcases hc with rfl | rfl | rfl | rfl | rfl | rfl | rfl <;> decide
theorem truthP_ne (b : Bool) : truthP b ≠ [] := by cases b <;> decide
theorem joinC_snoc : ∀ (L : List (Int × List UInt8)) (p : Int × List UInt8), L ≠ [] → joinC (L ++ [p]) = joinC L ++ 44 :: p.2
  | [], p, h => absurd rfl h
  | q :: r, p, _ => by simp [joinC]
theorem joinC_take_le : ∀ (L : List (Int × List UInt8)) (i : Nat), (joinC (L.take i)).length ≤ (joinC L).length
  | [], i => by simp
  | q :: r, 0 => by simp [joinC]
  | q :: r, i + 1 => by
    rw [List.take_succ_cons]
    simp only [joinC, List.length_append]
    have : ∀ (r : List (Int × List UInt8)) (i : Nat), ((r.take i).flatMap fun q => 44 :: q.2).length ≤ (r.flatMap fun q => 44 :: q.2).length := by
      intro r
      induction r with
      | nil => intro i; simp
      | cons x r ih =>
        intro i
        cases i with
        | zero => simp
        | succ i => rw [List.take_succ_cons, List.flatMap_cons, List.flatMap_cons, List.length_append, List.length_append]; have := ih i; omega
    have := this r i
    omega
theorem textP_ne {r : Ref} (h : r.good = true) : textP r ≠ [] := by
  intro e
  have := (text_len h).1
  rw [e] at this
  simp at this
theorem sign_len (k : Nat) : (signL.getD k []).length ≤ 2 := by
  unfold signL
  rcases k with _|_|_|_|_|_|_|_|_|_|_|_|k <;> simp
set_option maxHeartbeats 2000000 in
theorem spell_ok : ∀ (k : Nat) (n : Nd), n.size ≤ k → n.ok → SpellOk n
  | 0, n, hk, _ => by have := n.size_pos; omega
  | k + 1, n, hk, hn => by
    have ih := spell_ok k
    intro σ0 σ b l h hb hT hM hl
    obtain ⟨op, m, s, a, d, kids⟩ := n
    rw [Nd.size] at hk
    rw [Nd.ok] at hn
    obtain ⟨⟨ho, g1, g2, g4, gc, g5, g6, g7, gb, gk⟩, hks⟩ := hn
    have hkid : ∀ x ∈ kids, SpellOk x ∧ 1 ≤ x.op ∧ x.op ≤ 23 := fun x hx => by
      have h1 := Nd.size_kid hx
      have h2 := Nd.oks_mem.1 hks x hx
      refine ⟨ih x (by omega) h2, ?_⟩
      obtain ⟨o', _, _, _, _, _⟩ := x
      rw [Nd.ok] at h2
      exact h2.1.1
    obtain ⟨w, hw⟩ : ∃ w, (Nd.mk op m s a d kids).spell = w := ⟨_, rfl⟩
    rw [hw] at hl ⊢
    rw [Nd.spell, Nd.spells_map] at hw
    unfold spellK at hw
    rw [Nd.av_cs]
    refine a18 (by simp) ?_
    simp (disch := first | assumption | omega | (simp only [List.length_append, List.length_cons, List.length_nil]; omega)) only [go_sem, reduceCtorEq, Nat.reduceEqDiff, Nat.reduceAdd, Nat.reduceSub, Nat.reduceMul, Nat.reduceLeDiff, Int.reduceLT, Int.reduceLE, Int.reduceEq, ↓reduceIte, Int.reduceNeg, Int.reduceAdd, Int.reduceSub, Int.reduceMul, true_imp_iff, forall_const, Nat.mul_one, Int.reduceToNat, Nat.reducePow, Int.reducePow, Bool.true_and, Bool.false_and, Bool.and_false]
    refine boxC_by rfl fun c hc => ?_
    obtain ⟨hB, hcb, hc0⟩ := h.add hc (r := .obj (Nd.cs op m s a d (kids.map Nd.av)))
    have hb1 : (σ0.set c (some (.obj (Nd.cs op m s a d (kids.map Nd.av))))) b = none := by rw [ASt.set_ne (Ne.symm hcb)]; exact hb
    have hT1 := hT.set hc0 (r := some (.obj (Nd.cs op m s a d (kids.map Nd.av))))
    have hM1 := hM.set hc0 (r := some (.obj (Nd.cs op m s a d (kids.map Nd.av))))
    have hcell : ∀ {l' : List UInt8} {σ1 : ASt}, BD (σ0.set c (some (.obj (Nd.cs op m s a d (kids.map Nd.av))))) b l' σ1 → σ1 c = some (.obj (Nd.cs op m s a d (kids.map Nd.av))) := fun h => h.at hcb (ASt.set_same _ _ _)
    have hoff : ∀ {l' : List UInt8} {σ1 : ASt}, BD (σ0.set c (some (.obj (Nd.cs op m s a d (kids.map Nd.av))))) b l' σ1 → ∃ σ', Drop σ1 σ' ∧ BD σ0 b l' σ' := fun h => h.off hcb hc0
    have hc1 := hcell hB
    rw [cells_agg]
    generalize σ0.set c (some (.obj (Nd.cs op m s a d (kids.map Nd.av)))) = τ at hB hb1 hT1 hM1 hcell hoff
    generalize σ.set c (some (.obj (Nd.cs op m s a d (kids.map Nd.av)))) = σ1 at hB hc1 ⊢
    have hT2 := BD.tab hB hb1 hT1
    have hM2 := BD.maxL hB hb1 hM1
    by_cases h1 : op = 1
    · subst h1
      rw [if_pos rfl] at hw
      subst hw
      simp (disch := first | assumption | omega | (simp only [List.length_append, List.length_cons, List.length_nil]; omega)) only [go_sem, reduceCtorEq, Nat.reduceEqDiff, Nat.reduceAdd, Nat.reduceSub, Nat.reduceMul, Nat.reduceLeDiff, Int.reduceLT, Int.reduceLE, Int.reduceEq, ↓reduceIte, Int.reduceNeg, Int.reduceAdd, Int.reduceSub, Int.reduceMul, true_imp_iff, forall_const, Nat.mul_one, Int.reduceToNat, Nat.reducePow, Int.reducePow, Bool.true_and, Bool.false_and, Bool.and_false, hc1]
      refine (dtext_ok hT2 (g1 rfl)).mono ?_
      rintro v σ' ⟨rfl, rfl⟩
      simp (disch := first | assumption | omega | (simp only [List.length_append, List.length_cons, List.length_nil]; omega)) only [go_sem, reduceCtorEq, Nat.reduceEqDiff, Nat.reduceAdd, Nat.reduceSub, Nat.reduceMul, Nat.reduceLeDiff, Int.reduceLT, Int.reduceLE, Int.reduceEq, ↓reduceIte, Int.reduceNeg, Int.reduceAdd, Int.reduceSub, Int.reduceMul, true_imp_iff, forall_const, Nat.mul_one, Int.reduceToNat, Nat.reducePow, Int.reducePow, Bool.true_and, Bool.false_and, Bool.and_false]
      refine (writes1_ok hB _ (textD_ne m) (by omega)).mono ?_
      rintro v σ2 ⟨rfl, hB2⟩
      simp (disch := first | assumption | omega | (simp only [List.length_append, List.length_cons, List.length_nil]; omega)) only [go_sem, reduceCtorEq, Nat.reduceEqDiff, Nat.reduceAdd, Nat.reduceSub, Nat.reduceMul, Nat.reduceLeDiff, Int.reduceLT, Int.reduceLE, Int.reduceEq, ↓reduceIte, Int.reduceNeg, Int.reduceAdd, Int.reduceSub, Int.reduceMul, true_imp_iff, forall_const, Nat.mul_one, Int.reduceToNat, Nat.reducePow, Int.reducePow, Bool.true_and, Bool.false_and, Bool.and_false]
      obtain ⟨σ3, hd, hB3⟩ := hoff hB2
      exact retC_by hd (.refl _) ⟨rfl, hB3⟩
    rw [if_neg h1] at hw
    by_cases h2 : op = 2
    · subst h2
      rw [if_pos rfl] at hw
      have hQ2 := tquote_ok hM2 s (g2 rfl)
      have hQ : quotT s = 34 :: dbl s ++ [34] := rfl
      rw [hQ] at hw
      rw [hw] at hQ2
      have hwn : w ≠ [] := by rw [← hw]; simp
      simp (disch := first | assumption | omega | (simp only [List.length_append, List.length_cons, List.length_nil]; omega)) only [go_sem, reduceCtorEq, Nat.reduceEqDiff, Nat.reduceAdd, Nat.reduceSub, Nat.reduceMul, Nat.reduceLeDiff, Int.reduceLT, Int.reduceLE, Int.reduceEq, ↓reduceIte, Int.reduceNeg, Int.reduceAdd, Int.reduceSub, Int.reduceMul, true_imp_iff, forall_const, Nat.mul_one, Int.reduceToNat, Nat.reducePow, Int.reducePow, Bool.true_and, Bool.false_and, Bool.and_false, hc1]
      refine hQ2.mono ?_
      rintro v σ' ⟨rfl, rfl⟩
      simp (disch := first | assumption | omega | (simp only [List.length_append, List.length_cons, List.length_nil]; omega)) only [go_sem, reduceCtorEq, Nat.reduceEqDiff, Nat.reduceAdd, Nat.reduceSub, Nat.reduceMul, Nat.reduceLeDiff, Int.reduceLT, Int.reduceLE, Int.reduceEq, ↓reduceIte, Int.reduceNeg, Int.reduceAdd, Int.reduceSub, Int.reduceMul, true_imp_iff, forall_const, Nat.mul_one, Int.reduceToNat, Nat.reducePow, Int.reducePow, Bool.true_and, Bool.false_and, Bool.and_false]
      refine (writes1_ok hB _ hwn (by omega)).mono ?_
      rintro v σ2 ⟨rfl, hB2⟩
      simp (disch := first | assumption | omega | (simp only [List.length_append, List.length_cons, List.length_nil]; omega)) only [go_sem, reduceCtorEq, Nat.reduceEqDiff, Nat.reduceAdd, Nat.reduceSub, Nat.reduceMul, Nat.reduceLeDiff, Int.reduceLT, Int.reduceLE, Int.reduceEq, ↓reduceIte, Int.reduceNeg, Int.reduceAdd, Int.reduceSub, Int.reduceMul, true_imp_iff, forall_const, Nat.mul_one, Int.reduceToNat, Nat.reducePow, Int.reducePow, Bool.true_and, Bool.false_and, Bool.and_false]
      obtain ⟨σ3, hd, hB3⟩ := hoff hB2
      exact retC_by hd (.refl _) ⟨rfl, hB3⟩
    rw [if_neg h2] at hw
    by_cases h3 : op = 3
    · subst h3
      rw [if_pos rfl] at hw
      have hQ := truth_ok (!decide (m = 0))
      have hwn : w ≠ [] := by rw [← hw]; exact truthP_ne _
      rw [hw] at hQ
      simp (disch := first | assumption | omega | (simp only [List.length_append, List.length_cons, List.length_nil]; omega)) only [go_sem, reduceCtorEq, Nat.reduceEqDiff, Nat.reduceAdd, Nat.reduceSub, Nat.reduceMul, Nat.reduceLeDiff, Int.reduceLT, Int.reduceLE, Int.reduceEq, ↓reduceIte, Int.reduceNeg, Int.reduceAdd, Int.reduceSub, Int.reduceMul, true_imp_iff, forall_const, Nat.mul_one, Int.reduceToNat, Nat.reducePow, Int.reducePow, Bool.true_and, Bool.false_and, Bool.and_false, hc1]
      refine hQ.use ?_
      simp (disch := first | assumption | omega | (simp only [List.length_append, List.length_cons, List.length_nil]; omega)) only [go_sem, reduceCtorEq, Nat.reduceEqDiff, Nat.reduceAdd, Nat.reduceSub, Nat.reduceMul, Nat.reduceLeDiff, Int.reduceLT, Int.reduceLE, Int.reduceEq, ↓reduceIte, Int.reduceNeg, Int.reduceAdd, Int.reduceSub, Int.reduceMul, true_imp_iff, forall_const, Nat.mul_one, Int.reduceToNat, Nat.reducePow, Int.reducePow, Bool.true_and, Bool.false_and, Bool.and_false]
      refine (writes1_ok hB _ hwn (by omega)).mono ?_
      rintro v σ2 ⟨rfl, hB2⟩
      simp (disch := first | assumption | omega | (simp only [List.length_append, List.length_cons, List.length_nil]; omega)) only [go_sem, reduceCtorEq, Nat.reduceEqDiff, Nat.reduceAdd, Nat.reduceSub, Nat.reduceMul, Nat.reduceLeDiff, Int.reduceLT, Int.reduceLE, Int.reduceEq, ↓reduceIte, Int.reduceNeg, Int.reduceAdd, Int.reduceSub, Int.reduceMul, true_imp_iff, forall_const, Nat.mul_one, Int.reduceToNat, Nat.reducePow, Int.reducePow, Bool.true_and, Bool.false_and, Bool.and_false]
      obtain ⟨σ3, hd, hB3⟩ := hoff hB2
      exact retC_by hd (.refl _) ⟨rfl, hB3⟩
    rw [if_neg h3] at hw
    by_cases h4 : op = 4
    · subst h4
      rw [if_pos rfl] at hw
      obtain ⟨f1, f2⟩ := g4 rfl
      have hwn : w ≠ [] := by rw [← hw]; exact failT_ne f1 f2
      have hmb : m.natAbs ≤ 999999999999999999 := by have : (m.tdiv 10000).natAbs = m.natAbs / 10000 := Int.natAbs_tdiv m 10000; omega
      have hQ := failure_ok 4 m s a d kids hmb
      rw [Nd.av_cs, hw] at hQ
      simp (disch := first | assumption | omega | (simp only [List.length_append, List.length_cons, List.length_nil]; omega)) only [go_sem, reduceCtorEq, Nat.reduceEqDiff, Nat.reduceAdd, Nat.reduceSub, Nat.reduceMul, Nat.reduceLeDiff, Int.reduceLT, Int.reduceLE, Int.reduceEq, ↓reduceIte, Int.reduceNeg, Int.reduceAdd, Int.reduceSub, Int.reduceMul, true_imp_iff, forall_const, Nat.mul_one, Int.reduceToNat, Nat.reducePow, Int.reducePow, Bool.true_and, Bool.false_and, Bool.and_false, hc1]
      refine hQ.use ?_
      simp (disch := first | assumption | omega | (simp only [List.length_append, List.length_cons, List.length_nil]; omega)) only [go_sem, reduceCtorEq, Nat.reduceEqDiff, Nat.reduceAdd, Nat.reduceSub, Nat.reduceMul, Nat.reduceLeDiff, Int.reduceLT, Int.reduceLE, Int.reduceEq, ↓reduceIte, Int.reduceNeg, Int.reduceAdd, Int.reduceSub, Int.reduceMul, true_imp_iff, forall_const, Nat.mul_one, Int.reduceToNat, Nat.reducePow, Int.reducePow, Bool.true_and, Bool.false_and, Bool.and_false]
      refine (writes1_ok hB _ hwn (by omega)).mono ?_
      rintro v σ2 ⟨rfl, hB2⟩
      simp (disch := first | assumption | omega | (simp only [List.length_append, List.length_cons, List.length_nil]; omega)) only [go_sem, reduceCtorEq, Nat.reduceEqDiff, Nat.reduceAdd, Nat.reduceSub, Nat.reduceMul, Nat.reduceLeDiff, Int.reduceLT, Int.reduceLE, Int.reduceEq, ↓reduceIte, Int.reduceNeg, Int.reduceAdd, Int.reduceSub, Int.reduceMul, true_imp_iff, forall_const, Nat.mul_one, Int.reduceToNat, Nat.reducePow, Int.reducePow, Bool.true_and, Bool.false_and, Bool.and_false]
      obtain ⟨σ3, hd, hB3⟩ := hoff hB2
      exact retC_by hd (.refl _) ⟨rfl, hB3⟩
    rw [if_neg h4] at hw
    by_cases h5 : op = 5
    · subst h5
      rw [if_pos rfl] at hw
      have hQ := text_ok hT2 (g5 (.inl rfl))
      have hwn : w ≠ [] := by rw [← hw]; exact textP_ne (g5 (.inl rfl))
      rw [hw] at hQ
      unfold refAV at hQ
      simp (disch := first | assumption | omega | (simp only [List.length_append, List.length_cons, List.length_nil]; omega)) only [go_sem, reduceCtorEq, Nat.reduceEqDiff, Nat.reduceAdd, Nat.reduceSub, Nat.reduceMul, Nat.reduceLeDiff, Int.reduceLT, Int.reduceLE, Int.reduceEq, ↓reduceIte, Int.reduceNeg, Int.reduceAdd, Int.reduceSub, Int.reduceMul, true_imp_iff, forall_const, Nat.mul_one, Int.reduceToNat, Nat.reducePow, Int.reducePow, Bool.true_and, Bool.false_and, Bool.and_false, hc1]
      refine hQ.mono ?_
      rintro v σ' ⟨rfl, rfl⟩
      simp (disch := first | assumption | omega | (simp only [List.length_append, List.length_cons, List.length_nil]; omega)) only [go_sem, reduceCtorEq, Nat.reduceEqDiff, Nat.reduceAdd, Nat.reduceSub, Nat.reduceMul, Nat.reduceLeDiff, Int.reduceLT, Int.reduceLE, Int.reduceEq, ↓reduceIte, Int.reduceNeg, Int.reduceAdd, Int.reduceSub, Int.reduceMul, true_imp_iff, forall_const, Nat.mul_one, Int.reduceToNat, Nat.reducePow, Int.reducePow, Bool.true_and, Bool.false_and, Bool.and_false]
      refine (writes1_ok hB _ hwn (by omega)).mono ?_
      rintro v σ2 ⟨rfl, hB2⟩
      simp (disch := first | assumption | omega | (simp only [List.length_append, List.length_cons, List.length_nil]; omega)) only [go_sem, reduceCtorEq, Nat.reduceEqDiff, Nat.reduceAdd, Nat.reduceSub, Nat.reduceMul, Nat.reduceLeDiff, Int.reduceLT, Int.reduceLE, Int.reduceEq, ↓reduceIte, Int.reduceNeg, Int.reduceAdd, Int.reduceSub, Int.reduceMul, true_imp_iff, forall_const, Nat.mul_one, Int.reduceToNat, Nat.reducePow, Int.reducePow, Bool.true_and, Bool.false_and, Bool.and_false]
      obtain ⟨σ3, hd, hB3⟩ := hoff hB2
      exact retC_by hd (.refl _) ⟨rfl, hB3⟩
    rw [if_neg h5] at hw
    by_cases h6 : op = 6
    · subst h6
      rw [if_pos rfl] at hw
      have hQ := atext_ok hT2 (g5 (.inr rfl)) (g6 rfl)
      have hwn : w ≠ [] := by rw [← hw]; simp
      rw [hw] at hQ
      unfold areaAV at hQ
      simp (disch := first | assumption | omega | (simp only [List.length_append, List.length_cons, List.length_nil]; omega)) only [go_sem, reduceCtorEq, Nat.reduceEqDiff, Nat.reduceAdd, Nat.reduceSub, Nat.reduceMul, Nat.reduceLeDiff, Int.reduceLT, Int.reduceLE, Int.reduceEq, ↓reduceIte, Int.reduceNeg, Int.reduceAdd, Int.reduceSub, Int.reduceMul, true_imp_iff, forall_const, Nat.mul_one, Int.reduceToNat, Nat.reducePow, Int.reducePow, Bool.true_and, Bool.false_and, Bool.and_false, hc1]
      refine hQ.mono ?_
      rintro v σ' ⟨rfl, rfl⟩
      simp (disch := first | assumption | omega | (simp only [List.length_append, List.length_cons, List.length_nil]; omega)) only [go_sem, reduceCtorEq, Nat.reduceEqDiff, Nat.reduceAdd, Nat.reduceSub, Nat.reduceMul, Nat.reduceLeDiff, Int.reduceLT, Int.reduceLE, Int.reduceEq, ↓reduceIte, Int.reduceNeg, Int.reduceAdd, Int.reduceSub, Int.reduceMul, true_imp_iff, forall_const, Nat.mul_one, Int.reduceToNat, Nat.reducePow, Int.reducePow, Bool.true_and, Bool.false_and, Bool.and_false]
      refine (writes1_ok hB _ hwn (by omega)).mono ?_
      rintro v σ2 ⟨rfl, hB2⟩
      simp (disch := first | assumption | omega | (simp only [List.length_append, List.length_cons, List.length_nil]; omega)) only [go_sem, reduceCtorEq, Nat.reduceEqDiff, Nat.reduceAdd, Nat.reduceSub, Nat.reduceMul, Nat.reduceLeDiff, Int.reduceLT, Int.reduceLE, Int.reduceEq, ↓reduceIte, Int.reduceNeg, Int.reduceAdd, Int.reduceSub, Int.reduceMul, true_imp_iff, forall_const, Nat.mul_one, Int.reduceToNat, Nat.reducePow, Int.reducePow, Bool.true_and, Bool.false_and, Bool.and_false]
      obtain ⟨σ3, hd, hB3⟩ := hoff hB2
      exact retC_by hd (.refl _) ⟨rfl, hB3⟩
    rw [if_neg h6] at hw
    by_cases h7 : op = 7 ∨ op = 8
    · rw [if_pos h7] at hw
      obtain ⟨x, ks, rfl⟩ : ∃ x ks, kids = x :: ks := by
        cases kids with
        | nil => have := g7 (by omega); simp at this
        | cons x ks => exact ⟨x, ks, rfl⟩
      obtain ⟨i1, i2⟩ := hkid x (by simp)
      have hI := fun l' σ' (hB : BD τ b l' σ') hl' => inside_ok i1 i2 6 hB hb1 hT1 hM1 hl'
      simp only [List.map_cons, List.getD_cons_zero] at hw
      generalize insT 6 x.op x.spell = t at *
      obtain ⟨xo, xm, xs, xa, xb, xk⟩ := x
      simp only [List.map_cons] at hcell hc1 ⊢
      rw [Nd.av_cs] at hI
      simp only [Nd.av_cs] at hcell hc1 ⊢
      generalize ks.map Nd.av = K at *
      rcases h7 with rfl | rfl
      · simp only [if_true] at hw
        subst hw
        simp only [List.length_cons] at hl
        simp (disch := first | assumption | omega | (simp only [List.length_append, List.length_cons, List.length_nil]; omega)) only [go_sem, reduceCtorEq, Nat.reduceEqDiff, Nat.reduceAdd, Nat.reduceSub, Nat.reduceMul, Nat.reduceLeDiff, Int.reduceLT, Int.reduceLE, Int.reduceEq, ↓reduceIte, Int.reduceNeg, Int.reduceAdd, Int.reduceSub, Int.reduceMul, true_imp_iff, forall_const, Nat.mul_one, Int.reduceToNat, Nat.reducePow, Int.reducePow, Bool.true_and, Bool.false_and, Bool.and_false, hc1]
        refine (writeByte_ok hB 45 (by omega)).mono ?_
        rintro v σ2 ⟨rfl, hB2⟩
        have hc2 := hcell hB2
        simp (disch := first | assumption | omega | (simp only [List.length_append, List.length_cons, List.length_nil]; omega)) only [go_sem, reduceCtorEq, Nat.reduceEqDiff, Nat.reduceAdd, Nat.reduceSub, Nat.reduceMul, Nat.reduceLeDiff, Int.reduceLT, Int.reduceLE, Int.reduceEq, ↓reduceIte, Int.reduceNeg, Int.reduceAdd, Int.reduceSub, Int.reduceMul, true_imp_iff, forall_const, Nat.mul_one, Int.reduceToNat, Nat.reducePow, Int.reducePow, Bool.true_and, Bool.false_and, Bool.and_false, hc2]
        refine (hI _ _ hB2 (by simp only [List.length_append, List.length_cons, List.length_nil]; omega)).mono ?_
        rintro v σ3 ⟨rfl, hB3⟩
        simp (disch := first | assumption | omega | (simp only [List.length_append, List.length_cons, List.length_nil]; omega)) only [go_sem, reduceCtorEq, Nat.reduceEqDiff, Nat.reduceAdd, Nat.reduceSub, Nat.reduceMul, Nat.reduceLeDiff, Int.reduceLT, Int.reduceLE, Int.reduceEq, ↓reduceIte, Int.reduceNeg, Int.reduceAdd, Int.reduceSub, Int.reduceMul, true_imp_iff, forall_const, Nat.mul_one, Int.reduceToNat, Nat.reducePow, Int.reducePow, Bool.true_and, Bool.false_and, Bool.and_false]
        obtain ⟨σ4, hd, hB4⟩ := hoff hB3
        refine retC_by hd (.refl _) ⟨rfl, ?_⟩
        have e : l ++ 45 :: t = l ++ [45] ++ t := by simp
        rw [e]; exact hB4
      · rw [if_neg (by decide)] at hw
        subst hw
        simp only [List.length_cons] at hl
        simp (disch := first | assumption | omega | (simp only [List.length_append, List.length_cons, List.length_nil]; omega)) only [go_sem, reduceCtorEq, Nat.reduceEqDiff, Nat.reduceAdd, Nat.reduceSub, Nat.reduceMul, Nat.reduceLeDiff, Int.reduceLT, Int.reduceLE, Int.reduceEq, ↓reduceIte, Int.reduceNeg, Int.reduceAdd, Int.reduceSub, Int.reduceMul, true_imp_iff, forall_const, Nat.mul_one, Int.reduceToNat, Nat.reducePow, Int.reducePow, Bool.true_and, Bool.false_and, Bool.and_false, hc1]
        refine (writeByte_ok hB 43 (by omega)).mono ?_
        rintro v σ2 ⟨rfl, hB2⟩
        have hc2 := hcell hB2
        simp (disch := first | assumption | omega | (simp only [List.length_append, List.length_cons, List.length_nil]; omega)) only [go_sem, reduceCtorEq, Nat.reduceEqDiff, Nat.reduceAdd, Nat.reduceSub, Nat.reduceMul, Nat.reduceLeDiff, Int.reduceLT, Int.reduceLE, Int.reduceEq, ↓reduceIte, Int.reduceNeg, Int.reduceAdd, Int.reduceSub, Int.reduceMul, true_imp_iff, forall_const, Nat.mul_one, Int.reduceToNat, Nat.reducePow, Int.reducePow, Bool.true_and, Bool.false_and, Bool.and_false, hc2]
        refine (hI _ _ hB2 (by simp only [List.length_append, List.length_cons, List.length_nil]; omega)).mono ?_
        rintro v σ3 ⟨rfl, hB3⟩
        simp (disch := first | assumption | omega | (simp only [List.length_append, List.length_cons, List.length_nil]; omega)) only [go_sem, reduceCtorEq, Nat.reduceEqDiff, Nat.reduceAdd, Nat.reduceSub, Nat.reduceMul, Nat.reduceLeDiff, Int.reduceLT, Int.reduceLE, Int.reduceEq, ↓reduceIte, Int.reduceNeg, Int.reduceAdd, Int.reduceSub, Int.reduceMul, true_imp_iff, forall_const, Nat.mul_one, Int.reduceToNat, Nat.reducePow, Int.reducePow, Bool.true_and, Bool.false_and, Bool.and_false]
        obtain ⟨σ4, hd, hB4⟩ := hoff hB3
        refine retC_by hd (.refl _) ⟨rfl, ?_⟩
        have e : l ++ 43 :: t = l ++ [43] ++ t := by simp
        rw [e]; exact hB4
    rw [if_neg h7] at hw
    have h7a : op ≠ 7 := by omega
    have h7b : op ≠ 8 := by omega
    by_cases h9 : op = 9
    · subst h9
      rw [if_pos rfl] at hw
      obtain ⟨x, ks, rfl⟩ : ∃ x ks, kids = x :: ks := by
        cases kids with
        | nil => have := g7 (by omega); simp at this
        | cons x ks => exact ⟨x, ks, rfl⟩
      obtain ⟨i1, i2⟩ := hkid x (by simp)
      have hI := fun l' σ' (hB : BD τ b l' σ') hl' => inside_ok i1 i2 7 hB hb1 hT1 hM1 hl'
      simp only [List.map_cons, List.getD_cons_zero] at hw
      generalize insT 7 x.op x.spell = t at *
      obtain ⟨xo, xm, xs, xa, xb, xk⟩ := x
      rw [Nd.av_cs] at hI
      simp only [List.map_cons, Nd.av_cs] at hcell hc1 ⊢
      generalize ks.map Nd.av = K at *
      subst hw
      simp only [List.length_append, List.length_cons, List.length_nil] at hl
      simp (disch := first | assumption | omega | (simp only [List.length_append, List.length_cons, List.length_nil]; omega)) only [go_sem, reduceCtorEq, Nat.reduceEqDiff, Nat.reduceAdd, Nat.reduceSub, Nat.reduceMul, Nat.reduceLeDiff, Int.reduceLT, Int.reduceLE, Int.reduceEq, ↓reduceIte, Int.reduceNeg, Int.reduceAdd, Int.reduceSub, Int.reduceMul, true_imp_iff, forall_const, Nat.mul_one, Int.reduceToNat, Nat.reducePow, Int.reducePow, Bool.true_and, Bool.false_and, Bool.and_false, hc1]
      refine (hI _ _ hB (by omega)).mono ?_
      rintro v σ2 ⟨rfl, hB2⟩
      simp (disch := first | assumption | omega | (simp only [List.length_append, List.length_cons, List.length_nil]; omega)) only [go_sem, reduceCtorEq, Nat.reduceEqDiff, Nat.reduceAdd, Nat.reduceSub, Nat.reduceMul, Nat.reduceLeDiff, Int.reduceLT, Int.reduceLE, Int.reduceEq, ↓reduceIte, Int.reduceNeg, Int.reduceAdd, Int.reduceSub, Int.reduceMul, true_imp_iff, forall_const, Nat.mul_one, Int.reduceToNat, Nat.reducePow, Int.reducePow, Bool.true_and, Bool.false_and, Bool.and_false]
      refine (writeByte_ok hB2 37 (by simp only [List.length_append]; omega)).mono ?_
      rintro v σ3 ⟨rfl, hB3⟩
      simp (disch := first | assumption | omega | (simp only [List.length_append, List.length_cons, List.length_nil]; omega)) only [go_sem, reduceCtorEq, Nat.reduceEqDiff, Nat.reduceAdd, Nat.reduceSub, Nat.reduceMul, Nat.reduceLeDiff, Int.reduceLT, Int.reduceLE, Int.reduceEq, ↓reduceIte, Int.reduceNeg, Int.reduceAdd, Int.reduceSub, Int.reduceMul, true_imp_iff, forall_const, Nat.mul_one, Int.reduceToNat, Nat.reducePow, Int.reducePow, Bool.true_and, Bool.false_and, Bool.and_false]
      obtain ⟨σ4, hd, hB4⟩ := hoff hB3
      refine retC_by hd (.refl _) ⟨rfl, ?_⟩
      rw [← List.append_assoc]; exact hB4
    rw [if_neg h9] at hw
    by_cases h22 : op = 22
    · subst h22
      rw [if_pos rfl] at hw
      have hsn := gc rfl
      have hjt := joinC_take_le (kids.map fun x => (x.op, x.spell))
      have hspl : ∀ (i : Nat) (x : Nd), kids[i]? = some x → (kids.map fun x => (x.op, x.spell)).take (i + 1) = (kids.map fun x => (x.op, x.spell)).take i ++ [(x.op, x.spell)] := by
        intro i x hx
        have hlt : i < kids.length := (List.getElem?_eq_some_iff.1 hx).1
        rw [List.take_add_one, List.getElem?_map, hx]
        rfl
      have hspn : ∀ i, 0 < i → i < kids.length → (kids.map fun x => (x.op, x.spell)).take i ≠ [] := by
        intro i h0 h1 e
        have := congrArg List.length e
        rw [List.length_take, List.length_map, List.length_nil] at this
        omega
      have hspa : (kids.map fun x => (x.op, x.spell)).take kids.length = kids.map fun x => (x.op, x.spell) := List.take_of_length_le (by simp)
      have hspz : joinC ((kids.map fun x => (x.op, x.spell)).take 0) = [] := rfl
      generalize (kids.map fun x => (x.op, x.spell)) = sp at *
      subst hw
      simp only [List.length_append, List.length_cons, List.length_nil] at hl
      simp (disch := first | assumption | omega | (simp only [List.length_append, List.length_cons, List.length_nil]; omega)) only [go_sem, reduceCtorEq, Nat.reduceEqDiff, Nat.reduceAdd, Nat.reduceSub, Nat.reduceMul, Nat.reduceLeDiff, Int.reduceLT, Int.reduceLE, Int.reduceEq, ↓reduceIte, Int.reduceNeg, Int.reduceAdd, Int.reduceSub, Int.reduceMul, true_imp_iff, forall_const, Nat.mul_one, Int.reduceToNat, Nat.reducePow, Int.reducePow, Bool.true_and, Bool.false_and, Bool.and_false, hc1]
      refine (writes1_ok hB _ hsn (by omega)).mono ?_
      rintro v σ2 ⟨rfl, hB2⟩
      simp (disch := first | assumption | omega | (simp only [List.length_append, List.length_cons, List.length_nil]; omega)) only [go_sem, reduceCtorEq, Nat.reduceEqDiff, Nat.reduceAdd, Nat.reduceSub, Nat.reduceMul, Nat.reduceLeDiff, Int.reduceLT, Int.reduceLE, Int.reduceEq, ↓reduceIte, Int.reduceNeg, Int.reduceAdd, Int.reduceSub, Int.reduceMul, true_imp_iff, forall_const, Nat.mul_one, Int.reduceToNat, Nat.reducePow, Int.reducePow, Bool.true_and, Bool.false_and, Bool.and_false]
      refine (writeByte_ok hB2 40 (by simp only [List.length_append]; omega)).mono ?_
      rintro v σ3 ⟨rfl, hB3⟩
      have hc3 := hcell hB3
      obtain ⟨G, hG⟩ : ∃ G, G = ACode.wp Tryd.prog c18_47 := ⟨_, rfl⟩
      simp (disch := first | assumption | omega | (simp only [List.length_append, List.length_cons, List.length_nil]; omega)) only [go_sem, reduceCtorEq, Nat.reduceEqDiff, Nat.reduceAdd, Nat.reduceSub, Nat.reduceMul, Nat.reduceLeDiff, Int.reduceLT, Int.reduceLE, Int.reduceEq, ↓reduceIte, Int.reduceNeg, Int.reduceAdd, Int.reduceSub, Int.reduceMul, true_imp_iff, forall_const, Nat.mul_one, Int.reduceToNat, Nat.reducePow, Int.reducePow, Bool.true_and, Bool.false_and, Bool.and_false, hc3, ←hG]
      refine wp_loop_by (fun (i : Nat) a1 s2 => i ≤ kids.length ∧ (a1 0 = .ptr b 0 ∧ a1 114 = .sl .shr (kids.map Nd.av) ∧ a1 115 = .int .i64 kids.length ∧ a1 116 = .int .i64 i) ∧ BD τ b (l ++ s ++ [40] ++ joinC (sp.take i)) s2) (fun i => kids.length - i) 0 (Dr.now ⟨Nat.zero_le _, ?_, ?_⟩) ?_
      · simp (disch := first | assumption | omega | (simp only [List.length_append, List.length_cons, List.length_nil]; omega)) only [go_sem, reduceCtorEq, Nat.reduceEqDiff, Nat.reduceAdd, Nat.reduceSub, Nat.reduceMul, Nat.reduceLeDiff, Int.reduceLT, Int.reduceLE, Int.reduceEq, ↓reduceIte, Int.reduceNeg, Int.reduceAdd, Int.reduceSub, Int.reduceMul, true_imp_iff, forall_const, Nat.mul_one, Int.reduceToNat, Nat.reducePow, Int.reducePow, Bool.true_and, Bool.false_and, Bool.and_false]
      · rw [hspz, List.append_nil]; exact hB3
      rintro i a1 s2 ⟨hi, hf, hBi⟩
      have hji := hjt i
      by_cases hlt : i < kids.length
      · have hlt' : (i : Int) < kids.length := by omega
        have hx : kids[i]? = some (kids[i]'hlt) := List.getElem?_eq_getElem hlt
        obtain ⟨x, hxe⟩ : ∃ x, kids[i]'hlt = x := ⟨_, rfl⟩
        rw [hxe] at hx
        have hmx := Nd.get hx
        have hspx := hspl i x hx
        have hjs := hjt (i + 1)
        obtain ⟨i1, i2⟩ := hkid x (List.mem_of_getElem? hx)
        obtain ⟨xo, xm, xs, xa, xb, xk⟩ := x
        rw [Nd.av_cs] at hmx
        have i1' : ∀ (σ0 σ : ASt) (b : Nat) (l : List UInt8), BD σ0 b l σ → σ0 b = none → Tab σ0 → MaxL σ0 → l.length + (Nd.mk xo xm xs xa xb xk).spell.length ≤ 900000 →
            ACalls Tryd.prog 18 [.ptr b 0, .agg (Nd.cs xo xm xs xa xb (xk.map Nd.av))] σ fun v σ' => v = .tuple [] ∧ BD σ0 b (l ++ (Nd.mk xo xm xs xa xb xk).spell) σ' := by rw [← Nd.av_cs]; exact i1
        generalize hxw : (Nd.mk xo xm xs xa xb xk).spell = xw at *
        generalize xk.map Nd.av = K at *
        generalize kids.map Nd.av = L at *
        simp (disch := first | assumption | omega | (simp only [List.length_append, List.length_cons, List.length_nil]; omega)) only [go_sem, reduceCtorEq, Nat.reduceEqDiff, Nat.reduceAdd, Nat.reduceSub, Nat.reduceMul, Nat.reduceLeDiff, Int.reduceLT, Int.reduceLE, Int.reduceEq, ↓reduceIte, Int.reduceNeg, Int.reduceAdd, Int.reduceSub, Int.reduceMul, true_imp_iff, forall_const, Nat.mul_one, Int.reduceToNat, Nat.reducePow, Int.reducePow, Bool.true_and, Bool.false_and, Bool.and_false, hf, hlt', hmx, ←hG]
        refine allocC_by fun e he => ?_
        obtain ⟨hBe, heb, he0⟩ := hBi.add he (r := .obj (Nd.cs xo xm xs xa xb K))
        have hbe : (τ.set e (some (.obj (Nd.cs xo xm xs xa xb K)))) b = none := by rw [ASt.set_ne (Ne.symm heb)]; exact hb1
        have hTe := hT1.set he0 (r := some (.obj (Nd.cs xo xm xs xa xb K)))
        have hMe := hM1.set he0 (r := some (.obj (Nd.cs xo xm xs xa xb K)))
        have hcelle : ∀ {l' : List UInt8} {σ1 : ASt}, BD (τ.set e (some (.obj (Nd.cs xo xm xs xa xb K)))) b l' σ1 → σ1 e = some (.obj (Nd.cs xo xm xs xa xb K)) := fun h => h.at heb (ASt.set_same _ _ _)
        have hoffe : ∀ {l' : List UInt8} {σ1 : ASt}, BD (τ.set e (some (.obj (Nd.cs xo xm xs xa xb K)))) b l' σ1 → ∃ σ', Drop σ1 σ' ∧ BD τ b l' σ' := fun h => h.off heb he0
        have hce := hcelle hBe
        by_cases h0 : i = 0
        · subst h0
          have hz : ((0 : Nat) : Int) = 0 := rfl
          have hj1 : joinC (sp.take (0 + 1)) = xw := by rw [hspx]; simp [joinC]
          rw [hj1] at hjs
          rw [hspz, List.append_nil] at hBe
          simp (disch := first | assumption | omega | (simp only [List.length_append, List.length_cons, List.length_nil]; omega)) only [go_sem, reduceCtorEq, Nat.reduceEqDiff, Nat.reduceAdd, Nat.reduceSub, Nat.reduceMul, Nat.reduceLeDiff, Int.reduceLT, Int.reduceLE, Int.reduceEq, ↓reduceIte, Int.reduceNeg, Int.reduceAdd, Int.reduceSub, Int.reduceMul, true_imp_iff, forall_const, Nat.mul_one, Int.reduceToNat, Nat.reducePow, Int.reducePow, Bool.true_and, Bool.false_and, Bool.and_false, hf, hz, ASt.set_set, hce, ←hG]
          refine (i1' _ _ _ _ hBe hbe hTe hMe (by simp only [List.length_append, List.length_cons, List.length_nil]; omega)).mono ?_
          rintro v σ4 ⟨rfl, hB4⟩
          simp (disch := first | assumption | omega | (simp only [List.length_append, List.length_cons, List.length_nil]; omega)) only [go_sem, reduceCtorEq, Nat.reduceEqDiff, Nat.reduceAdd, Nat.reduceSub, Nat.reduceMul, Nat.reduceLeDiff, Int.reduceLT, Int.reduceLE, Int.reduceEq, ↓reduceIte, Int.reduceNeg, Int.reduceAdd, Int.reduceSub, Int.reduceMul, true_imp_iff, forall_const, Nat.mul_one, Int.reduceToNat, Nat.reducePow, Int.reducePow, Bool.true_and, Bool.false_and, Bool.and_false, hf, ←hG]
          obtain ⟨σ5, hd, hB5⟩ := hoffe hB4
          refine ⟨0 + 1, by dsimp only; omega, Dr.drop hd ⟨by omega, ?_, ?_⟩⟩
          · simp (disch := first | assumption | omega | (simp only [List.length_append, List.length_cons, List.length_nil]; omega)) only [go_sem, reduceCtorEq, Nat.reduceEqDiff, Nat.reduceAdd, Nat.reduceSub, Nat.reduceMul, Nat.reduceLeDiff, Int.reduceLT, Int.reduceLE, Int.reduceEq, ↓reduceIte, Int.reduceNeg, Int.reduceAdd, Int.reduceSub, Int.reduceMul, true_imp_iff, forall_const, Nat.mul_one, Int.reduceToNat, Nat.reducePow, Int.reducePow, Bool.true_and, Bool.false_and, Bool.and_false, hf]
          · rw [hj1]; exact hB5
        · have h0' : (0 : Int) < i := by omega
          have hj1 : joinC (sp.take (i + 1)) = joinC (sp.take i) ++ 44 :: xw := by rw [hspx, joinC_snoc _ _ (hspn i (by omega) hlt)]
          rw [hj1] at hjs
          simp only [List.length_append, List.length_cons] at hjs
          simp (disch := first | assumption | omega | (simp only [List.length_append, List.length_cons, List.length_nil]; omega)) only [go_sem, reduceCtorEq, Nat.reduceEqDiff, Nat.reduceAdd, Nat.reduceSub, Nat.reduceMul, Nat.reduceLeDiff, Int.reduceLT, Int.reduceLE, Int.reduceEq, ↓reduceIte, Int.reduceNeg, Int.reduceAdd, Int.reduceSub, Int.reduceMul, true_imp_iff, forall_const, Nat.mul_one, Int.reduceToNat, Nat.reducePow, Int.reducePow, Bool.true_and, Bool.false_and, Bool.and_false, hf, h0', ASt.set_set, hce, ←hG]
          refine (writeByte_ok hBe 44 (by simp only [List.length_append, List.length_cons, List.length_nil]; omega)).mono ?_
          rintro v σ4 ⟨rfl, hB4⟩
          have hc4 := hcelle hB4
          simp (disch := first | assumption | omega | (simp only [List.length_append, List.length_cons, List.length_nil]; omega)) only [go_sem, reduceCtorEq, Nat.reduceEqDiff, Nat.reduceAdd, Nat.reduceSub, Nat.reduceMul, Nat.reduceLeDiff, Int.reduceLT, Int.reduceLE, Int.reduceEq, ↓reduceIte, Int.reduceNeg, Int.reduceAdd, Int.reduceSub, Int.reduceMul, true_imp_iff, forall_const, Nat.mul_one, Int.reduceToNat, Nat.reducePow, Int.reducePow, Bool.true_and, Bool.false_and, Bool.and_false, hf, hc4, ←hG]
          refine (i1' _ _ _ _ hB4 hbe hTe hMe (by simp only [List.length_append, List.length_cons, List.length_nil]; omega)).mono ?_
          rintro v σ5 ⟨rfl, hB5⟩
          simp (disch := first | assumption | omega | (simp only [List.length_append, List.length_cons, List.length_nil]; omega)) only [go_sem, reduceCtorEq, Nat.reduceEqDiff, Nat.reduceAdd, Nat.reduceSub, Nat.reduceMul, Nat.reduceLeDiff, Int.reduceLT, Int.reduceLE, Int.reduceEq, ↓reduceIte, Int.reduceNeg, Int.reduceAdd, Int.reduceSub, Int.reduceMul, true_imp_iff, forall_const, Nat.mul_one, Int.reduceToNat, Nat.reducePow, Int.reducePow, Bool.true_and, Bool.false_and, Bool.and_false, hf, ←hG]
          obtain ⟨σ6, hd, hB6⟩ := hoffe hB5
          refine ⟨i + 1, by dsimp only; omega, Dr.drop hd ⟨by omega, ?_, ?_⟩⟩
          · simp (disch := first | assumption | omega | (simp only [List.length_append, List.length_cons, List.length_nil]; omega)) only [go_sem, reduceCtorEq, Nat.reduceEqDiff, Nat.reduceAdd, Nat.reduceSub, Nat.reduceMul, Nat.reduceLeDiff, Int.reduceLT, Int.reduceLE, Int.reduceEq, ↓reduceIte, Int.reduceNeg, Int.reduceAdd, Int.reduceSub, Int.reduceMul, true_imp_iff, forall_const, Nat.mul_one, Int.reduceToNat, Nat.reducePow, Int.reducePow, Bool.true_and, Bool.false_and, Bool.and_false, hf]
          · have e2 : l ++ s ++ [40] ++ joinC (sp.take (i + 1)) = l ++ s ++ [40] ++ joinC (sp.take i) ++ [44] ++ xw := by rw [hj1]; simp
            rw [e2]; exact hB6
      · have hlt' : ¬ (i : Int) < kids.length := by omega
        have hie : i = kids.length := by omega
        rw [hie, hspa] at hBi
        simp (disch := first | assumption | omega | (simp only [List.length_append, List.length_cons, List.length_nil]; omega)) only [go_sem, reduceCtorEq, Nat.reduceEqDiff, Nat.reduceAdd, Nat.reduceSub, Nat.reduceMul, Nat.reduceLeDiff, Int.reduceLT, Int.reduceLE, Int.reduceEq, ↓reduceIte, Int.reduceNeg, Int.reduceAdd, Int.reduceSub, Int.reduceMul, true_imp_iff, forall_const, Nat.mul_one, Int.reduceToNat, Nat.reducePow, Int.reducePow, Bool.true_and, Bool.false_and, Bool.and_false, hf, hlt', ←hG]
        rw [hG]
        simp (disch := first | assumption | omega | (simp only [List.length_append, List.length_cons, List.length_nil]; omega)) only [go_sem, reduceCtorEq, Nat.reduceEqDiff, Nat.reduceAdd, Nat.reduceSub, Nat.reduceMul, Nat.reduceLeDiff, Int.reduceLT, Int.reduceLE, Int.reduceEq, ↓reduceIte, Int.reduceNeg, Int.reduceAdd, Int.reduceSub, Int.reduceMul, true_imp_iff, forall_const, Nat.mul_one, Int.reduceToNat, Nat.reducePow, Int.reducePow, Bool.true_and, Bool.false_and, Bool.and_false, hf]
        refine (writeByte_ok hBi 41 (by simp only [List.length_append, List.length_cons, List.length_nil]; omega)).mono ?_
        rintro v σ4 ⟨rfl, hB4⟩
        simp (disch := first | assumption | omega | (simp only [List.length_append, List.length_cons, List.length_nil]; omega)) only [go_sem, reduceCtorEq, Nat.reduceEqDiff, Nat.reduceAdd, Nat.reduceSub, Nat.reduceMul, Nat.reduceLeDiff, Int.reduceLT, Int.reduceLE, Int.reduceEq, ↓reduceIte, Int.reduceNeg, Int.reduceAdd, Int.reduceSub, Int.reduceMul, true_imp_iff, forall_const, Nat.mul_one, Int.reduceToNat, Nat.reducePow, Int.reducePow, Bool.true_and, Bool.false_and, Bool.and_false]
        obtain ⟨σ5, hd, hB5⟩ := hoff hB4
        refine retC_by hd (.refl _) ⟨rfl, ?_⟩
        have e2 : l ++ (s ++ 40 :: (joinC sp ++ [41])) = l ++ s ++ [40] ++ joinC sp ++ [41] := by simp
        first
          | (rw [e2]; exact hB5)
          | (have e3 : l ++ (s ++ 40 :: joinC sp ++ [41]) = l ++ s ++ [40] ++ joinC sp ++ [41] := by simp
             rw [e3]; exact hB5)
    rw [if_neg h22] at hw
    by_cases h23 : op = 23
    · subst h23
      rw [if_pos rfl] at hw
      subst hw
      simp (disch := first | assumption | omega | (simp only [List.length_append, List.length_cons, List.length_nil]; omega)) only [go_sem, reduceCtorEq, Nat.reduceEqDiff, Nat.reduceAdd, Nat.reduceSub, Nat.reduceMul, Nat.reduceLeDiff, Int.reduceLT, Int.reduceLE, Int.reduceEq, ↓reduceIte, Int.reduceNeg, Int.reduceAdd, Int.reduceSub, Int.reduceMul, true_imp_iff, forall_const, Nat.mul_one, Int.reduceToNat, Nat.reducePow, Int.reducePow, Bool.true_and, Bool.false_and, Bool.and_false, hc1]
      obtain ⟨σ3, hd, hB3⟩ := hoff hB
      exact retC_by hd (.refl _) ⟨rfl, hB3⟩
    rw [if_neg h23] at hw
    obtain ⟨x, y, ks, rfl⟩ : ∃ x y ks, kids = x :: y :: ks := by
      have := gb (by omega)
      match kids, this with
      | x :: y :: ks, _ => exact ⟨x, y, ks, rfl⟩
    obtain ⟨i1, i2⟩ := hkid x (by simp)
    obtain ⟨j1, j2⟩ := hkid y (by simp)
    have hI := fun l' σ' (hB : BD τ b l' σ') hl' => inside_ok i1 i2 (levelP op) hB hb1 hT1 hM1 hl'
    have hJ := fun l' σ' (hB : BD τ b l' σ') hl' => inside_ok j1 j2 (levelP op + 1) hB hb1 hT1 hM1 hl'
    have hLv := level_ok op (by omega) (by omega)
    have hlb : 0 ≤ levelP op ∧ levelP op ≤ 8 := by unfold levelP; repeat' split
                                                   all_goals omega
    simp only [List.map_cons, List.getD_cons_zero, List.getD_cons_succ] at hw
    generalize insT (levelP op) x.op x.spell = t at *
    generalize insT (levelP op + 1) y.op y.spell = u at *
    generalize levelP op = lv at *
    obtain ⟨xo, xm, xs, xa, xb, xk⟩ := x
    obtain ⟨yo, ym, ys, ya, yb, yk⟩ := y
    rw [Nd.av_cs] at hI hJ
    simp only [List.map_cons, Nd.av_cs] at hcell hc1 ⊢
    generalize ks.map Nd.av = K at *
    obtain ⟨j, hj⟩ : ∃ j : Nat, op = j + 10 := ⟨(op - 10).toNat, by omega⟩
    have hj2 : (op - 10).toNat = j := by omega
    have hj3 : op - 10 = (j : Int) := by omega
    rw [hj2] at hw
    have hjl : j < 12 := by omega
    obtain ⟨sg, hsg⟩ : ∃ sg, signL[j]? = some sg := ⟨signL[j]'(by simp [signL]; omega), List.getElem?_eq_getElem _⟩
    have hsg2 : signL.getD j [] = sg := by rw [List.getD_eq_getElem?_getD, hsg]; rfl
    have hsl := sign_len j
    have hsn : sg ≠ [] := by
      have : ∀ j < 12, signL.getD j [] ≠ [] := by decide
      rw [← hsg2]; exact this j hjl
    rw [hsg2] at hw hsl
    have hmg : (signL.map AV.str)[j]? = some (.str sg) := by rw [List.getElem?_map, hsg]; rfl
    have hSg := esigns_ok
    generalize signL.map AV.str = SL at *
    subst hw
    simp only [List.length_append] at hl
    simp (disch := first | assumption | omega | (simp only [List.length_append, List.length_cons, List.length_nil]; omega)) only [go_sem, reduceCtorEq, Nat.reduceEqDiff, Nat.reduceAdd, Nat.reduceSub, Nat.reduceMul, Nat.reduceLeDiff, Int.reduceLT, Int.reduceLE, Int.reduceEq, ↓reduceIte, Int.reduceNeg, Int.reduceAdd, Int.reduceSub, Int.reduceMul, true_imp_iff, forall_const, Nat.mul_one, Int.reduceToNat, Nat.reducePow, Int.reducePow, Bool.true_and, Bool.false_and, Bool.and_false, hc1, h1, h2, h3, h4, h5, h6, h7a, h7b, h9, h22, h23]
    refine hLv.use ?_
    simp (disch := first | assumption | omega | (simp only [List.length_append, List.length_cons, List.length_nil]; omega)) only [go_sem, reduceCtorEq, Nat.reduceEqDiff, Nat.reduceAdd, Nat.reduceSub, Nat.reduceMul, Nat.reduceLeDiff, Int.reduceLT, Int.reduceLE, Int.reduceEq, ↓reduceIte, Int.reduceNeg, Int.reduceAdd, Int.reduceSub, Int.reduceMul, true_imp_iff, forall_const, Nat.mul_one, Int.reduceToNat, Nat.reducePow, Int.reducePow, Bool.true_and, Bool.false_and, Bool.and_false, hc1]
    refine (hI _ _ hB (by omega)).mono ?_
    rintro v σ2 ⟨rfl, hB2⟩
    have hc2 := hcell hB2
    simp (disch := first | assumption | omega | (simp only [List.length_append, List.length_cons, List.length_nil]; omega)) only [go_sem, reduceCtorEq, Nat.reduceEqDiff, Nat.reduceAdd, Nat.reduceSub, Nat.reduceMul, Nat.reduceLeDiff, Int.reduceLT, Int.reduceLE, Int.reduceEq, ↓reduceIte, Int.reduceNeg, Int.reduceAdd, Int.reduceSub, Int.reduceMul, true_imp_iff, forall_const, Nat.mul_one, Int.reduceToNat, Nat.reducePow, Int.reducePow, Bool.true_and, Bool.false_and, Bool.and_false, hc2]
    refine hSg.use ?_
    simp (disch := first | assumption | omega | (simp only [List.length_append, List.length_cons, List.length_nil]; omega)) only [go_sem, reduceCtorEq, Nat.reduceEqDiff, Nat.reduceAdd, Nat.reduceSub, Nat.reduceMul, Nat.reduceLeDiff, Int.reduceLT, Int.reduceLE, Int.reduceEq, ↓reduceIte, Int.reduceNeg, Int.reduceAdd, Int.reduceSub, Int.reduceMul, true_imp_iff, forall_const, Nat.mul_one, Int.reduceToNat, Nat.reducePow, Int.reducePow, Bool.true_and, Bool.false_and, Bool.and_false, hc2, hj3, hmg]
    refine (writes1_ok hB2 _ hsn (by simp only [List.length_append]; omega)).mono ?_
    rintro v σ3 ⟨rfl, hB3⟩
    have hc3 := hcell hB3
    simp (disch := first | assumption | omega | (simp only [List.length_append, List.length_cons, List.length_nil]; omega)) only [go_sem, reduceCtorEq, Nat.reduceEqDiff, Nat.reduceAdd, Nat.reduceSub, Nat.reduceMul, Nat.reduceLeDiff, Int.reduceLT, Int.reduceLE, Int.reduceEq, ↓reduceIte, Int.reduceNeg, Int.reduceAdd, Int.reduceSub, Int.reduceMul, true_imp_iff, forall_const, Nat.mul_one, Int.reduceToNat, Nat.reducePow, Int.reducePow, Bool.true_and, Bool.false_and, Bool.and_false, hc3]
    refine (hJ _ _ hB3 (by simp only [List.length_append]; omega)).mono ?_
    rintro v σ4 ⟨rfl, hB4⟩
    simp (disch := first | assumption | omega | (simp only [List.length_append, List.length_cons, List.length_nil]; omega)) only [go_sem, reduceCtorEq, Nat.reduceEqDiff, Nat.reduceAdd, Nat.reduceSub, Nat.reduceMul, Nat.reduceLeDiff, Int.reduceLT, Int.reduceLE, Int.reduceEq, ↓reduceIte, Int.reduceNeg, Int.reduceAdd, Int.reduceSub, Int.reduceMul, true_imp_iff, forall_const, Nat.mul_one, Int.reduceToNat, Nat.reducePow, Int.reducePow, Bool.true_and, Bool.false_and, Bool.and_false]
    obtain ⟨σ5, hd, hB5⟩ := hoff hB4
    refine retC_by hd (.refl _) ⟨rfl, ?_⟩
    have e : l ++ (t ++ (sg ++ u)) = l ++ t ++ sg ++ u := by simp
    first
      | (rw [e]; exact hB5)
      | (rw [← List.append_assoc, ← List.append_assoc]; exact hB5)
end Go.A
