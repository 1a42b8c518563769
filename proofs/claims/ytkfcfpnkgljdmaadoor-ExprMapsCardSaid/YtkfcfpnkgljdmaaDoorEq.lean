/- Quote, walked. -/
import Derived.Test.YtkfcfpnkgljdmaaDoorZd
import Derived.Lib.Replace
import Derived.Test.YtkfcfpnkgljdmaaDoorCodeEq
namespace Go.A
open Go.Proofs Go.Lib
set_option maxRecDepth 100000
set_option linter.unusedSimpArgs false
set_option linter.unusedVariables false

def dbl (s : List UInt8) : List UInt8 := s.flatMap fun c => if c = 34 then [34, 34] else [c]
theorem dbl_nil : dbl [] = [] := rfl
theorem dbl_q (s : List UInt8) : dbl (34 :: s) = 34 :: 34 :: dbl s := by simp [dbl]
theorem dbl_o {c : UInt8} (h : c ≠ 34) (s : List UInt8) : dbl (c :: s) = c :: dbl s := by simp [dbl, h]
theorem dbl_app (u v : List UInt8) : dbl (u ++ v) = dbl u ++ dbl v := by simp [dbl]
theorem dbl_same : ∀ u : List UInt8, 34 ∉ u → dbl u = u
  | [], _ => rfl
  | c :: u, h => by
    simp only [List.mem_cons, not_or] at h
    rw [dbl_o (fun e => h.1 e.symm), dbl_same u h.2]
theorem rep_ne {c : UInt8} (hc : c ≠ 34) (new : List UInt8) : ∀ (k : Nat) (s : List UInt8), replaceK [34] new k (c :: s) = c :: replaceK [34] new k s
  | 0, s => rfl
  | k + 1, s => by
    have hp : ([34] : List UInt8).isPrefixOf (c :: s) = false := by
      simp [List.isPrefixOf]
      exact fun h => hc h.symm
    have hi : index (c :: s) [34] = if index s [34] == -1 then -1 else index s [34] + 1 := by
      rw [index, hp]
      simp
    unfold replaceK
    rw [hi]
    have hge := index_ge s [34]
    by_cases h : index s [34] = -1
    · have hb : (index s [34] == -1) = true := by rw [h]; rfl
      rw [if_pos hb, if_pos (by rfl), if_pos hb]
    · have hb : ¬ (index s [34] == -1) = true := by rw [beq_iff_eq]; exact h
      rw [if_neg hb, if_neg (by rw [beq_iff_eq]; omega), if_neg hb]
      have e : (index s [34] + 1).toNat = (index s [34]).toNat + 1 := by omega
      rw [e, List.take_succ_cons]
      simp only [List.length_cons, List.length_nil, List.cons_append]
      rw [show (index s [34]).toNat + 1 + (0 + 1) = ((index s [34]).toNat + (0 + 1)) + 1 by omega, List.drop_succ_cons]
theorem rep_eq (new : List UInt8) (k : Nat) (s : List UInt8) : replaceK [34] new (k + 1) (34 :: s) = new ++ replaceK [34] new k s := by
  have hi : index (34 :: s) [34] = 0 := by
    rw [index]
    simp [List.isPrefixOf]
  rw [replaceK, hi]
  simp
theorem rep_dbl : ∀ s : List UInt8, replaceK [34] [34, 34] (s.count 34) s = dbl s
  | [] => rfl
  | c :: s => by
    by_cases hc : c = 34
    · subst hc
      rw [List.count_cons_self, rep_eq, rep_dbl s, dbl_q]
      rfl
    · rw [List.count_cons_of_ne (by simpa using hc), rep_ne hc, rep_dbl s, dbl_o hc]
theorem replace_dbl (s : List UInt8) : replaceAll s [34] [34, 34] = dbl s := by
  unfold replaceAll replace replaceNum
  rw [if_neg (by decide), if_pos (.inl (by omega)), count_one, rep_dbl]
theorem dbl_len (s : List UInt8) : (dbl s).length ≤ 2 * s.length := by
  induction s with
  | nil => simp [dbl]
  | cons c s ih =>
    by_cases hc : c = 34
    · subst hc; rw [dbl_q]; simp; omega
    · rw [dbl_o hc]; simp; omega
/-- bytealg.MaxLen holds some number. -/
def MaxL (σ : ASt) : Prop := ∃ m : Int, σ 1 = some (.fix ([m].map (AV.int .i64)))
theorem replace_ok {σ : ASt} (hM : MaxL σ) (s : List UInt8) (hs : s.length ≤ 100000) : ACalls Tryd.prog 42 [.str s, .str [34], .str [34, 34]] σ fun v σ' => v = .str (dbl s) ∧ σ' = σ := by
  obtain ⟨m, hm⟩ := hM
  refine ACalls.of_below (u := .string ⟨⟨dbl s⟩⟩) (fun w vs hsim ha => ?_) fun w => .str _
  cases ha with
  | cons h1 h2 =>
  cases h2 with
  | cons h2 h3 =>
  cases h3 with
  | cons h3 h4 =>
  cases h1; cases h2; cases h3; cases h4
  have hcell := fix_ints hsim hm 0 m rfl
  have e1 : (⟨⟨s⟩⟩ : ByteArray).size = s.length := rfl
  have e2 : (⟨⟨[34, 34]⟩⟩ : ByteArray).size = 2 := rfl
  have hcb : countB ⟨⟨s⟩⟩ ⟨⟨[34]⟩⟩ ≤ s.length := by
    show count s [34] ≤ s.length
    rw [count_one]
    exact List.count_le_length
  refine (Tryd.strings_ReplaceAll ⟨⟨s⟩⟩ ⟨⟨[34]⟩⟩ ⟨⟨[34, 34]⟩⟩ m w (by rw [e1]; omega) hcell (by decide) (by rw [e1, e2]; omega)).mono ?_
  rintro e w' ⟨rfl, hb⟩
  refine ⟨?_, hb⟩
  show _ = Ending.returned (.string ⟨⟨dbl s⟩⟩)
  rw [← replace_dbl]
theorem tquote_ok {σ : ASt} (hM : MaxL σ) (s : List UInt8) (hs : s.length ≤ 100000) : ACalls Tryd.prog 25 [.str s] σ fun v σ' => v = .str (34 :: dbl s ++ [34]) ∧ σ' = σ := by
  have hl := dbl_len s
  refine a25 (by simp) ?_
  simp (disch := first | assumption | omega | (simp only [List.length_append, List.length_cons, List.length_nil]; omega)) only [go_sem, reduceCtorEq, Nat.reduceEqDiff, Nat.reduceAdd, Nat.reduceSub, Nat.reduceMul, Nat.reduceLeDiff, Int.reduceLT, Int.reduceLE, Int.reduceEq, ↓reduceIte, Int.reduceNeg, Int.reduceAdd, Int.reduceSub, Int.reduceMul, true_imp_iff, forall_const, Nat.mul_one, Int.reduceToNat, Nat.reducePow, Int.reducePow, Bool.true_and, Bool.false_and, Bool.and_false]
  refine (replace_ok hM s hs).mono ?_
  rintro v σ' ⟨rfl, rfl⟩
  have e1 : binS .add [34] (dbl s) = some (.str (34 :: dbl s)) := binS_add (by simp; omega)
  have e2 : binS .add (34 :: dbl s) [34] = some (.str (34 :: dbl s ++ [34])) := binS_add (by simp; omega)
  simp (disch := first | assumption | omega | (simp only [List.length_append, List.length_cons, List.length_nil]; omega)) only [go_sem, reduceCtorEq, Nat.reduceEqDiff, Nat.reduceAdd, Nat.reduceSub, Nat.reduceMul, Nat.reduceLeDiff, Int.reduceLT, Int.reduceLE, Int.reduceEq, ↓reduceIte, Int.reduceNeg, Int.reduceAdd, Int.reduceSub, Int.reduceMul, true_imp_iff, forall_const, Nat.mul_one, Int.reduceToNat, Nat.reducePow, Int.reducePow, Bool.true_and, Bool.false_and, Bool.and_false, e1, e2]
  exact retC_by (Drop.refl _) (.refl _) ⟨rfl, rfl⟩
end Go.A
