/- What is left of a rectangle: the plain law. AddrRects behind its loop. -/
import Derived.Test.YtfjnahkcfdcbeaaGl
import Derived.Test.YtfjnahkcfdcbeaaCodeC
namespace Go.A
open Go.Proofs
set_option maxRecDepth 100000
set_option linter.unusedSimpArgs false
set_option linter.unusedVariables false

def sumC : List Rct → Int
  | [] => 0
  | r :: rs => r.cells + sumC rs
def cntH (i j : Int) : List Rct → Int
  | [] => 0
  | r :: rs => (if r.has i j = true then 1 else 0) + cntH i j rs
theorem sumC_app : ∀ (xs ys : List Rct), sumC (xs ++ ys) = sumC xs + sumC ys
  | [], ys => by simp [sumC]
  | x :: xs, ys => by simp only [List.cons_append, sumC, sumC_app xs ys]; omega
theorem cntH_app (i j : Int) : ∀ (xs ys : List Rct), cntH i j (xs ++ ys) = cntH i j xs + cntH i j ys
  | [], ys => by simp [cntH]
  | x :: xs, ys => by simp only [List.cons_append, cntH, cntH_app i j xs ys]; omega
theorem Rct.has_iff {r : Rct} {i j : Int} : r.has i j = true ↔ r.row ≤ i ∧ i - r.row < r.rows ∧ r.col ≤ j ∧ j - r.col < r.cols := by
  simp only [Rct.has, hasP, decide_eq_true_eq]
theorem sumC_put (xs : List Rct) {r : Rct} (h1 : 0 ≤ r.rows) (h2 : 0 ≤ r.cols) : sumC (putP xs r) = sumC xs + r.rows * r.cols := by
  unfold putP
  split
  · rw [sumC_app]; simp [sumC, Rct.cells]
  · rename_i h
    by_cases g : r.rows = 0
    · rw [g]; omega
    · have : r.cols = 0 := by omega
      rw [this]; omega
theorem cntH_put (i j : Int) (xs : List Rct) (r : Rct) : cntH i j (putP xs r) = cntH i j xs + (if r.has i j = true then 1 else 0) := by
  unfold putP
  split
  · rw [cntH_app]; simp [cntH]
  · rename_i h
    rw [if_neg (fun hh => by have := Rct.has_iff.1 hh; omega)]
    omega
theorem put_good {xs : List Rct} {r : Rct} (h : ∀ x ∈ xs, x.good = true) (hr : 0 < r.rows → 0 < r.cols → r.good = true) : ∀ x ∈ putP xs r, x.good = true := by
  unfold putP
  split
  · rename_i hh
    intro x hx
    rcases List.mem_append.1 hx with hx | hx
    · exact h x hx
    · rw [List.mem_singleton.1 hx]; exact hr hh.1 hh.2
  · exact h

section
variable {a b : Rct} (ha : a.good = true) (hb : b.good = true)
theorem meet_has (ha : a.good = true) (hb : b.good = true) (i j : Int) : ((meetP a b).2 = true → (meetP a b).1.has i j = (a.has i j && b.has i j)) ∧ ((meetP a b).2 = false → (a.has i j && b.has i j) = false ∧ (meetP a b).1 = ⟨0, 0, 0, 0⟩) := by
  refine ⟨fun h => ?_, fun h => ?_⟩
  · obtain ⟨v1, v2, v3⟩ := meet_vals h
    rw [v1, Bool.eq_iff_iff, Bool.and_eq_true, Rct.has_iff, Rct.has_iff, Rct.has_iff]
    dsimp only
    omega
  · unfold meetP at h ⊢
    dsimp only at h ⊢
    split at h
    · rename_i hn
      rw [if_pos hn]
      refine ⟨?_, rfl⟩
      cases hh : (a.has i j && b.has i j) with
      | false => rfl
      | true =>
        rw [Bool.and_eq_true, Rct.has_iff, Rct.has_iff] at hh
        omega
    · cases h
theorem meet_good (ha : a.good = true) (hb : b.good = true) (h : (meetP a b).2 = true) : (meetP a b).1.good = true := by
  obtain ⟨v1, v2, v3⟩ := meet_vals h
  have h1 := Rct.good_iff.1 ha
  have h2 := Rct.good_iff.1 hb
  rw [Rct.good_iff]
  rw [v1] at v2 v3 ⊢
  dsimp only at v2 v3 ⊢
  omega
/-- **What is left, and where they meet, is the whole.** -/
theorem less_law (ha : a.good = true) (hb : b.good = true) (i j : Int) : (∀ r ∈ lessP a b, r.good = true) ∧ (lessP a b).length ≤ 4 ∧ (sumC (lessP a b) + if (meetP a b).2 = true then (meetP a b).1.cells else 0) = a.cells ∧
    cntH i j (lessP a b) = if a.has i j = true ∧ b.has i j = false then 1 else 0 := by
  have h1 := Rct.good_iff.1 ha
  have h2 := Rct.good_iff.1 hb
  have hm := meet_has ha hb i j
  have hg := meet_good ha hb
  unfold lessP
  cases hok : (meetP a b).2 with
  | false =>
    rw [if_pos rfl, if_neg (by simp)]
    refine ⟨fun r hr => by rw [List.mem_singleton.1 hr]; exact ha, by simp, by simp [sumC], ?_⟩
    have h3 := (hm.2 hok).1
    simp only [cntH]
    cases hx : a.has i j <;> cases hy : b.has i j <;> simp_all
  | true =>
    rw [if_neg (by simp), if_pos rfl]
    have h3 := hm.1 hok
    obtain ⟨v1, v2, v3⟩ := meet_vals hok
    replace hg := Rct.good_iff.1 (hg hok)
    obtain ⟨m, hmm⟩ : ∃ m, (meetP a b).1 = m := ⟨_, rfl⟩
    rw [hmm] at v1 v2 v3 hg h3
    simp only [hmm]
    have w : a.row ≤ m.row ∧ m.row + m.rows ≤ a.row + a.rows ∧ a.col ≤ m.col ∧ m.col + m.cols ≤ a.col + a.cols := by
      rw [v1]; dsimp only; omega
    clear hm v1 hok hmm
    refine ⟨?_, ?_, ?_, ?_⟩
    · refine put_good (put_good (put_good (put_good (fun x hx => by cases hx) ?_) ?_) ?_) ?_ <;> (intro g1 g2; rw [Rct.good_iff]; dsimp only at g1 g2 ⊢; omega)
    · have := putP_len [] ⟨a.row, a.col, m.row - a.row, a.cols⟩
      have := putP_len (putP [] ⟨a.row, a.col, m.row - a.row, a.cols⟩) ⟨m.row + m.rows, a.col, a.row + a.rows - m.row - m.rows, a.cols⟩
      have := putP_len (putP (putP [] ⟨a.row, a.col, m.row - a.row, a.cols⟩) ⟨m.row + m.rows, a.col, a.row + a.rows - m.row - m.rows, a.cols⟩) ⟨m.row, a.col, m.rows, m.col - a.col⟩
      have := putP_len (putP (putP (putP [] ⟨a.row, a.col, m.row - a.row, a.cols⟩) ⟨m.row + m.rows, a.col, a.row + a.rows - m.row - m.rows, a.cols⟩) ⟨m.row, a.col, m.rows, m.col - a.col⟩) ⟨m.row, m.col + m.cols, m.rows, a.col + a.cols - m.col - m.cols⟩
      simp only [List.length_nil] at *
      omega
    · rw [sumC_put _ (by dsimp only; omega) (by dsimp only; omega), sumC_put _ (by dsimp only; omega) (by dsimp only; omega), sumC_put _ (by dsimp only; omega) (by dsimp only; omega), sumC_put _ (by dsimp only; omega) (by dsimp only; omega)]
      simp only [sumC, Rct.cells]
      obtain ⟨t, ht⟩ : ∃ t, m.row - a.row = t := ⟨_, rfl⟩
      obtain ⟨u, hu⟩ : ∃ u, a.row + a.rows - m.row - m.rows = u := ⟨_, rfl⟩
      obtain ⟨p, hp⟩ : ∃ p, m.col - a.col = p := ⟨_, rfl⟩
      obtain ⟨q, hq⟩ : ∃ q, a.col + a.cols - m.col - m.cols = q := ⟨_, rfl⟩
      rw [ht, hu, hp, hq]
      have e1 : a.rows = t + u + m.rows := by omega
      have e2 : a.cols = p + q + m.cols := by omega
      rw [e1, e2]
      simp only [Int.add_mul, Int.mul_add]
      omega
    · rw [cntH_put, cntH_put, cntH_put, cntH_put]
      simp only [cntH]
      have e : b.has i j = true → a.has i j = true → m.has i j = true := fun x y => by rw [h3, x, y]; rfl
      have e' : m.has i j = true → a.has i j = true ∧ b.has i j = true := fun x => by rw [h3, Bool.and_eq_true] at x; exact x
      have hcase : (if a.has i j = true ∧ b.has i j = false then (1 : Int) else 0) = if a.has i j = true ∧ ¬ m.has i j = true then 1 else 0 := by
        cases hx : a.has i j <;> cases hy : b.has i j <;> cases hz : m.has i j <;> simp_all
      rw [hcase]
      simp only [Rct.has_iff]
      clear e e' hcase h3 h2 hb
      repeat' split
      all_goals omega
end
theorem sumC_take {L : List Rct} (h : ∀ r ∈ L, r.good = true) : ∀ i, i ≤ L.length → 0 ≤ sumC (L.take i) ∧ sumC (L.take i) ≤ 2100000 * i
  | 0, _ => by simp [sumC]
  | i + 1, hi => by
    obtain ⟨h1, h2⟩ := sumC_take h i (by omega)
    rw [List.take_succ_eq_append_getElem (by omega), sumC_app]
    have := Rct.cells_bd (h (L[i]'(by omega)) (List.getElem_mem _))
    simp only [sumC]
    omega
theorem cntH_take {L : List Rct} (x y : Int) : ∀ i, i ≤ L.length → 0 ≤ cntH x y (L.take i) ∧ cntH x y (L.take i) ≤ i
  | 0, _ => by simp [cntH]
  | i + 1, hi => by
    obtain ⟨h1, h2⟩ := cntH_take (L := L) x y i (by omega)
    rw [List.take_succ_eq_append_getElem (by omega), cntH_app]
    simp only [cntH]
    split <;> omega
end Go.A
