/- The document's columns are the program's. Plain. -/
import Derived.Test.YtfjnahkcfdcbeaaDoorGi
namespace Go.A
open Go.Proofs
set_option maxRecDepth 100000
set_option linter.unusedSimpArgs false
set_option linter.unusedVariables false

theorem great_letter {c : UInt8} (h : letterP c.toNat ≠ 0) : greatC c = UInt8.ofNat (65 + ((letterP c.toNat).toNat - 1)) ∧ 1 ≤ letterP c.toNat ∧ letterP c.toNat ≤ 26 := by
  have hall : (List.range 256).all (fun n => decide (letterP ((UInt8.ofNat n).toNat) ≠ 0 → greatC (UInt8.ofNat n) = UInt8.ofNat (65 + ((letterP ((UInt8.ofNat n).toNat)).toNat - 1)) ∧ 1 ≤ letterP ((UInt8.ofNat n).toNat) ∧ letterP ((UInt8.ofNat n).toNat) ≤ 26)) = true := by decide +kernel
  have := List.all_eq_true.1 hall c.toNat (List.mem_range.2 c.toNat_lt)
  simp only [UInt8.ofNat_toNat, decide_eq_true_eq] at this
  exact this h
theorem colF_none_snoc : ∀ (l : List UInt8) (c : UInt8) (n : Int), colF n l = none → colF n (l ++ [c]) = none
  | [], c, n, h => by simp [colF] at h
  | x :: l, c, n, h => by
    simp only [List.cons_append, colF] at h ⊢
    split
    · rfl
    · rename_i hx
      rw [if_neg hx] at h
      exact colF_none_snoc l c _ h
theorem colF_snoc : ∀ (l : List UInt8) (c : UInt8) (n m : Int), colF n l = some m → colF n (l ++ [c]) = if letterP c.toNat = 0 ∨ 700 < m then none else some (26 * m + letterP c.toNat)
  | [], c, n, m, h => by
    simp only [colF, Option.some.injEq] at h
    subst h
    simp only [List.nil_append, colF]
  | x :: l, c, n, m, h => by
    simp only [List.cons_append, colF] at h ⊢
    split at h
    · cases h
    · rename_i hx
      rw [if_neg hx]
      exact colF_snoc l c _ m h
/-- A name that has a number is that number's name. -/
theorem colF_name (r : List UInt8) : ∀ (N : Int), colF 0 r.reverse = some N → 0 ≤ N ∧ (1 ≤ r.length → 1 ≤ N) ∧ (2 ≤ r.length → 27 ≤ N) ∧ (3 ≤ r.length → 703 ≤ N) ∧ ∀ j, lettersF (r.length + j) N.toNat = greatP r.reverse := by
  induction r with
  | nil =>
    intro N h
    simp only [List.reverse_nil, colF, Option.some.injEq] at h
    subst h
    refine ⟨by omega, by simp, by simp, by simp, fun j => ?_⟩
    cases j <;> rfl
  | cons c r ih =>
    intro N h
    rw [List.reverse_cons] at h
    cases hm : colF 0 r.reverse with
    | none => rw [colF_none_snoc _ _ _ hm] at h; cases h
    | some m =>
      obtain ⟨h0, h1, h2, h3, h4⟩ := ih m hm
      rw [colF_snoc _ _ _ _ hm] at h
      split at h
      · cases h
      · rename_i hc
        injection h with h
        obtain ⟨g1, g2, g3⟩ := great_letter (c := c) (by omega)
        subst h
        simp only [List.length_cons]
        refine ⟨by omega, by omega, ?_, ?_, fun j => ?_⟩
        · intro hr; have := h1 (by omega); omega
        · intro hr; have := h2 (by omega); omega
        · rw [show r.length + 1 + j = (r.length + j) + 1 by omega, lettersF, if_neg (by omega), List.reverse_cons]
          rw [show ((26 * m + letterP c.toNat).toNat - 1) / 26 = m.toNat by omega, h4 j]
          rw [show ((26 * m + letterP c.toNat).toNat - 1) % 26 = (letterP c.toNat).toNat - 1 by omega]
          simp [greatP, g1]
theorem colR_at : ∀ (k i j : Nat), i + k ≤ 700 → i ≤ j → j < i + k → colR (lettersP j) k i = ((j : Int), true)
  | 0, i, j, _, _, h => by omega
  | k + 1, i, j, h, h1, h2 => by
    unfold colR
    by_cases he : i = j
    · subst he; rw [if_pos rfl]
    · rw [if_neg, colR_at k (i + 1) j (by omega) (by omega) (by omega)]
      intro hl
      have h3 := names_back (a := (i : Int)) (by omega) (by omega)
      have h4 := names_back (a := (j : Int)) (by omega) (by omega)
      rw [hl, h4] at h3
      injection h3 with h3
      omega
theorem colR_no : ∀ (k i : Nat) (t : List UInt8), (∀ j : Nat, j < 700 → lettersP j ≠ t) → i + k ≤ 700 → colR t k i = (0, false)
  | 0, i, t, _, _ => rfl
  | k + 1, i, t, h, hk => by
    unfold colR
    rw [if_neg (h i (by omega)), colR_no k (i + 1) t h (by omega)]
theorem colF_great : ∀ (l : List UInt8) (n : Int), colF n (greatP l) = colF n l
  | [], n => rfl
  | c :: l, n => by
    have hall : (List.range 256).all (fun n => decide (letterP ((greatC (UInt8.ofNat n)).toNat) = letterP ((UInt8.ofNat n).toNat))) = true := by decide +kernel
    have := List.all_eq_true.1 hall c.toNat (List.mem_range.2 c.toNat_lt)
    simp only [UInt8.ofNat_toNat, decide_eq_true_eq] at this
    simp only [greatP, List.map_cons, colF, this]
    split
    · rfl
    · exact colF_great l _
theorem column_eq (l : List UInt8) : columnP l = colR (greatP l) 700 0 := by
  have hg : columnP (greatP l) = columnP l := by unfold columnP; rw [colF_great]
  cases hN : columnP l with
  | mk v ok =>
    cases ok with
    | true =>
      have hN' := hN
      unfold columnP at hN'
      split at hN'
      · rename_i N hc
        split at hN'
        · simp at hN'
        · rename_i hb
          simp only [Prod.mk.injEq, and_true] at hN'
          have h1 := colF_name l.reverse N (by simpa using hc)
          simp only [List.reverse_reverse, List.length_reverse] at h1
          obtain ⟨h0, _, _, h3, h4⟩ := h1
          have hlen : l.length < 3 := by
            rcases Nat.lt_or_ge l.length 3 with h | h
            · exact h
            · have := h3 h; omega
          have hl4 := h4 (4 - l.length)
          rw [show l.length + (4 - l.length) = 4 by omega] at hl4
          obtain ⟨m, rfl⟩ : ∃ m : Nat, N = m + 1 := ⟨(N - 1).toNat, by omega⟩
          have hL : lettersP m = greatP l := by
            unfold lettersP
            rw [if_neg (by omega), hl4]
          rw [← hL, colR_at 700 0 m (by omega) (by omega) (by omega), ← hN']
          congr 1
          omega
      · simp at hN'
    | false =>
      have hv : v = 0 := by
        have hN' := hN
        unfold columnP at hN'
        split at hN'
        · split at hN'
          · simp at hN'; exact hN'.symm
          · simp at hN'
        · simp at hN'; exact hN'.symm
      subst hv
      rw [colR_no 700 0]
      · intro j hj he
        have := names_back (a := (j : Int)) (by omega) (by omega)
        rw [he, hg, hN] at this
        simp at this
      · omega

end Go.A
