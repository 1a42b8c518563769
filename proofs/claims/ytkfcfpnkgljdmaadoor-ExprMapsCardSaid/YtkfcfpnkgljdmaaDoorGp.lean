/- Columns' names. Plain. -/
import Derived.Test.YtkfcfpnkgljdmaaDoorGd
namespace Go.A
open Go.Proofs
set_option maxRecDepth 100000
set_option linter.unusedSimpArgs false
set_option linter.unusedVariables false

theorem bytesLess_trans : ∀ {x y z : List UInt8}, Op.bytesLess x y = true → Op.bytesLess y z = true → Op.bytesLess x z = true
  | [], [], _, h, _ => by simp [Op.bytesLess] at h
  | [], _ :: _, [], _, h => by simp [Op.bytesLess] at h
  | [], _ :: _, _ :: _, _, _ => rfl
  | _ :: _, [], _, h, _ => by simp [Op.bytesLess] at h
  | _ :: _, _ :: _, [], _, h => by simp [Op.bytesLess] at h
  | a :: x, b :: y, c :: z, h, k => by
    simp only [Op.bytesLess, Bool.or_eq_true, Bool.and_eq_true, decide_eq_true_eq, beq_iff_eq] at h k ⊢
    rcases h with h | ⟨rfl, h⟩
    · rcases k with k | ⟨rfl, k⟩
      · exact .inl (UInt8.lt_trans h k)
      · exact .inl h
    · rcases k with k | ⟨rfl, k⟩
      · exact .inl k
      · exact .inr ⟨rfl, bytesLess_trans h k⟩
/-- One name comes ahead of another one. -/
def aheadB (s t : List UInt8) : Bool := decide (s.length < t.length) || (decide (s.length = t.length) && Op.bytesLess s t)
theorem aheadB_trans {x y z : List UInt8} (h : aheadB x y = true) (k : aheadB y z = true) : aheadB x z = true := by
  simp only [aheadB, Bool.or_eq_true, Bool.and_eq_true, decide_eq_true_eq] at h k ⊢
  rcases h with h | ⟨h, h'⟩ <;> rcases k with k | ⟨k, k'⟩
  · exact .inl (by omega)
  · exact .inl (by omega)
  · exact .inl (by omega)
  · exact .inr ⟨by omega, bytesLess_trans h' k'⟩
theorem names_rise1 : (List.range 699).all (fun i => aheadB (lettersP i) (lettersP (i + 1 : Nat))) = true := by decide +kernel
theorem names_rise (a : Nat) : ∀ k, a + k + 1 < 700 → aheadB (lettersP a) (lettersP (a + k + 1 : Nat)) = true
  | 0, h => by
    have := List.all_eq_true.1 names_rise1 a (List.mem_range.2 (by omega))
    simpa using this
  | k + 1, h => by
    have h1 := names_rise a k (by omega)
    have h2 := List.all_eq_true.1 names_rise1 (a + k + 1) (List.mem_range.2 (by omega))
    exact aheadB_trans h1 h2
theorem names_back1 : (List.range 700).all (fun i => decide (columnP (lettersP i) = ((i : Int), true))) = true := by decide +kernel
theorem names_back {a : Int} (h0 : 0 ≤ a) (h1 : a < 700) : columnP (lettersP a) = (a, true) := by
  obtain ⟨n, rfl⟩ : ∃ n : Nat, a = n := ⟨a.toNat, by omega⟩
  have := List.all_eq_true.1 names_back1 n (List.mem_range.2 (by omega))
  simpa using this
theorem lettersF_len : ∀ k n, (lettersF k n).length ≤ k
  | 0, n => Nat.le_refl _
  | k + 1, n => by
    unfold lettersF
    split
    · exact Nat.zero_le _
    · have := lettersF_len k ((n - 1) / 26)
      simp; omega
theorem letters_len (c : Int) : (lettersP c).length ≤ 4 := by
  unfold lettersP
  split
  · exact Nat.zero_le _
  · exact lettersF_len _ _
end Go.A
