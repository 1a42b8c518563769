/- The document's Read, plain: it is the program's. -/
import Derived.Test.YtfjnahkcfdcbeaaDoorWc
import Derived.Test.YtfjnahkcfdcbeaaDoorGs
namespace Go.A
open Go.Proofs
set_option maxRecDepth 100000
set_option linter.unusedSimpArgs false
set_option linter.unusedVariables false

/-- The number of digits. -/
def valF : Int → List UInt8 → Int
  | n, [] => n
  | n, c :: cs => valF (10 * n + c.toNat - 48) cs
theorem numF_valF : ∀ (l : List UInt8) (n : Int), 0 ≤ n → numF (min n 3001) l = min (valF n (l.take (runL isD l))) 3001
  | [], n, h => rfl
  | c :: cs, n, h => by
    unfold numF runL
    by_cases hd : isD c = true
    · rw [if_pos hd, if_pos hd, List.take_succ_cons, valF]
      have h1 : 48 ≤ c.toNat ∧ c.toNat ≤ 57 := by simpa [isD] using hd
      rw [← numF_valF cs (10 * n + c.toNat - 48) (by omega)]
      congr 1
      omega
    · rw [if_neg hd, if_neg hd, List.take_zero, valF]
theorem valF_ge : ∀ (ds : List UInt8) (n : Int), (∀ c ∈ ds, isD c = true) → 0 ≤ n → n * 10 ^ ds.length ≤ valF n ds ∧ valF n ds < (n + 1) * 10 ^ ds.length
  | [], n, _, h => by simp [valF]; omega
  | c :: cs, n, hd, h => by
    have h1 : 48 ≤ c.toNat ∧ c.toNat ≤ 57 := by simpa [isD] using hd c (by simp)
    obtain ⟨h2, h3⟩ := valF_ge cs (10 * n + c.toNat - 48) (fun x hx => hd x (by simp [hx])) (by omega)
    rw [valF, List.length_cons, Int.pow_succ]
    have hp : (0 : Int) < 10 ^ cs.length := Int.pow_pos (by omega)
    constructor
    · refine Int.le_trans ?_ h2
      have : n * (10 ^ cs.length * 10) = (10 * n) * 10 ^ cs.length := by rw [Int.mul_comm (10 ^ cs.length), ← Int.mul_assoc, Int.mul_comm n 10]
      rw [this]
      exact Int.mul_le_mul_of_nonneg_right (by omega) (Int.le_of_lt hp)
    · refine Int.lt_of_lt_of_le h3 ?_
      have : (n + 1) * (10 ^ cs.length * 10) = (10 * n + 10) * 10 ^ cs.length := by rw [Int.mul_comm (10 ^ cs.length), ← Int.mul_assoc]; congr 1; omega
      rw [this]
      exact Int.mul_le_mul_of_nonneg_right (by omega) (Int.le_of_lt hp)
theorem runL_all (p : UInt8 → Bool) : ∀ l : List UInt8, ∀ c ∈ l.take (runL p l), p c = true
  | [], c, h => by simp [runL] at h
  | x :: l, c, h => by
    unfold runL at h
    split at h
    · rename_i hx
      rw [List.take_succ_cons, List.mem_cons] at h
      rcases h with rfl | h
      · exact hx
      · exact runL_all p l c h
    · simp at h
theorem atP_drop (l : List UInt8) (i : Nat) : atP l i = atP (l.drop i) 0 := by
  unfold atP
  rw [List.getElem?_drop, Nat.add_zero]

theorem readQ_by (l : List UInt8) (i k : Nat) (hk : runL isD (l.drop i) = k) (col : Int) (ar ac : Bool) : readQ l i col ar ac =
    if k < 1 ∨ 4 < k ∨ atP l i = 48 ∨ 0 < letterP (atP l (i + k)) ∨ atP l (i + k) = 95 then (Ref.zero, 0)
    else if 3000 < valF 0 ((l.drop i).take k) then (Ref.zero, 0)
    else ((⟨valF 0 ((l.drop i).take k) - 1, col, ar, ac⟩ : Ref), ((i + k : Nat) : Int)) := by
  have hn := numF_valF (l.drop i) 0 (Int.le_refl _)
  rw [show min (0 : Int) 3001 = 0 from rfl, hk] at hn
  have hall := runL_all isD (l.drop i)
  have hle := runL_le isD (l.drop i)
  rw [hk] at hall hle
  unfold readQ
  rw [hn, hk]
  have hb := valF_ge _ 0 hall (Int.le_refl _)
  rcases k with _ | k
  · rw [if_pos (.inl (by rw [List.take_zero]; decide)), if_pos (.inl (by omega))]
  obtain ⟨c, cs, hcs⟩ : ∃ c cs, l.drop i = c :: cs := by
    cases h : l.drop i with
    | nil => rw [h] at hle; simp at hle
    | cons c cs => exact ⟨c, cs, rfl⟩
  have hat : atP l i = c.toNat := by rw [atP_drop, hcs]; rfl
  rw [hcs, List.take_succ_cons] at hall hb ⊢
  rw [hcs, List.length_cons] at hle
  have hc : 48 ≤ c.toNat ∧ c.toNat ≤ 57 := by simpa [isD] using hall c (by simp)
  by_cases h48 : atP l i = 48
  · rw [if_pos (by omega), if_pos (by omega)]
  by_cases hL : 0 < letterP (atP l (i + (k + 1))) ∨ atP l (i + (k + 1)) = 95
  · rw [if_pos (by omega), if_pos (by omega)]
  have hv : valF 0 (c :: cs.take k) = valF (c.toNat - 48) (cs.take k) := by rw [valF]; congr 1; omega
  have hg := (valF_ge (cs.take k) (c.toNat - 48) (fun x hx => hall x (by simp [hx])) (by omega)).1
  rw [List.length_take_of_le (by omega)] at hg
  have h1 : (1 : Int) ≤ c.toNat - 48 := by omega
  have hp : (0 : Int) < 10 ^ k := Int.pow_pos (by omega)
  have h2 : (10 : Int) ^ k ≤ valF 0 (c :: cs.take k) := by
    rw [hv]
    refine Int.le_trans ?_ hg
    have := Int.mul_le_mul_of_nonneg_right h1 (Int.le_of_lt hp)
    omega
  by_cases h4 : 4 < k + 1
  · have h3 : (10 : Int) ^ 4 ≤ 10 ^ k := by
      have := Nat.pow_le_pow_right (n := 10) (by omega) (show 4 ≤ k by omega)
      exact_mod_cast this
    rw [if_pos (by omega), if_pos (by omega)]
  · by_cases h5 : 3000 < valF 0 (c :: cs.take k)
    · rw [if_pos (by omega), if_neg (by omega), if_pos h5]
    · rw [if_neg (by omega), if_neg (by omega), if_neg h5]
      congr 2
      omega

/-- Digits of any number. -/
theorem dec_step (n : Nat) : Lib.decDigits n = if n < 10 then [UInt8.ofNat (48 + n)] else Lib.decDigits (n / 10) ++ [UInt8.ofNat (48 + n % 10)] := by
  rw [Lib.decDigits]
  by_cases h1 : n < 10
  · rw [dif_pos h1, if_pos h1]
  · rw [dif_neg h1, if_neg h1]
end Go.A
