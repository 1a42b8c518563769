/- Plain: a number that is written is read again. -/
import Derived.Test.YtmefepbdognkdaaGreatDoorVf
namespace Go.A
open Go.Proofs Go.Vint
set_option maxRecDepth 100000
set_option linter.unusedSimpArgs false
set_option linter.unusedVariables false

theorem pow_le9 {k : Nat} (h : k ≤ 9) : 128 ^ k ≤ 9223372036854775808 := by
  have := Nat.pow_le_pow_right (n := 128) (by omega) h
  have e : (128 : Nat) ^ 9 = 9223372036854775808 := by decide
  omega
theorem u8_of_lt {n : Nat} (h : n < 256) : (u8Of (n : Int)).toNat = n := by
  unfold u8Of
  rw [Int.toNat_natCast]
  simp; omega
theorem u8_self (c : UInt8) : u8Of (c.toNat : Int) = c := by
  unfold u8Of
  rw [Int.toNat_natCast]; simp
/-- A number that was written is scanned. -/
theorem scan_uint : ∀ (m : Nat) (w k U : Nat) (r : List UInt8), (uintB w).length = m → k ≤ 9 → U + w * 128 ^ k < 18446744073709551616 → (0 < k → 0 < w) → scan k U (uintB w ++ r) = (0, U + w * 128 ^ k, k + (uintB w).length)
  | m, w, k, U, r, hm, hk, hb, hpos => by
    by_cases hw : w < 128
    · rw [uintB_small hw]
      simp only [List.singleton_append, scan, List.length_singleton, u8_of_lt (show w < 256 by omega)]
      have h1 : ¬ (k = 9 ∧ 1 < w ∨ 0 < k ∧ w = 0) := by
        rintro (⟨rfl, h⟩ | ⟨h, h2⟩)
        · have e : (128 : Nat) ^ 9 = 9223372036854775808 := by decide
          rw [e] at hb
          omega
        · have := hpos h; omega
      rw [if_neg h1, if_pos hw, Nat.mod_eq_of_lt hw]
    · rw [uintB_big hw] at hm ⊢
      have hc : (u8Of ((128 + w % 128 : Nat) : Int)).toNat = 128 + w % 128 := u8_of_lt (by omega)
      simp only [List.cons_append, scan, hc, List.length_cons]
      have hk9 : k ≠ 9 := by
        rintro rfl
        have e : (128 : Nat) ^ 9 = 9223372036854775808 := by decide
        rw [e] at hb
        omega
      rw [if_neg (by omega), if_neg (by omega)]
      have e1 : (128 + w % 128) % 128 = w % 128 := by omega
      have e2 : U + w % 128 * 128 ^ k + w / 128 * 128 ^ (k + 1) = U + w * 128 ^ k := by
        rw [Nat.pow_succ, Nat.add_assoc]
        congr 1
        rw [← Nat.mul_assoc, Nat.mul_right_comm (w / 128), ← Nat.add_mul]
        congr 1
        omega
      rw [e1]
      simp only [List.length_cons] at hm
      rw [scan_uint (m - 1) (w / 128) (k + 1) _ r (by omega) (by omega) (by rw [e2]; exact hb) (by omega), e2]
      simp; omega
theorem scan_cut : ∀ (j w k U : Nat), k ≤ 9 → U + w * 128 ^ k < 18446744073709551616 → (0 < k → 0 < w) → j < (uintB w).length → scan k U ((uintB w).take j) = (2, 0, 0)
  | 0, w, k, U, _, _, _, _ => rfl
  | j + 1, w, k, U, hk, hb, hpos, hj => by
    by_cases hw : w < 128
    · rw [uintB_small hw] at hj; simp at hj
    · rw [uintB_big hw] at hj ⊢
      have hc : (u8Of ((128 + w % 128 : Nat) : Int)).toNat = 128 + w % 128 := u8_of_lt (by omega)
      simp only [List.take_succ_cons, scan, hc]
      have hk9 : k ≠ 9 := by
        rintro rfl
        have e : (128 : Nat) ^ 9 = 9223372036854775808 := by decide
        rw [e] at hb
        omega
      rw [if_neg (by omega), if_neg (by omega)]
      have e1 : (128 + w % 128) % 128 = w % 128 := by omega
      have e2 : U + w % 128 * 128 ^ k + w / 128 * 128 ^ (k + 1) = U + w * 128 ^ k := by
        rw [Nat.pow_succ, Nat.add_assoc]
        congr 1
        rw [← Nat.mul_assoc, Nat.mul_right_comm (w / 128), ← Nat.add_mul]
        congr 1
        omega
      rw [e1]
      exact scan_cut j (w / 128) (k + 1) _ (by omega) (by rw [e2]; exact hb) (by omega) (by simpa using hj)
theorem scan_of : ∀ (l : List UInt8) (k U v n : Nat), k ≤ 9 → scan k U l = (0, v, n) → ∃ w, v = U + w * 128 ^ k ∧ n = k + (uintB w).length ∧ l = uintB w ++ l.drop (n - k) ∧ (0 < k → 0 < w)
  | [], k, U, v, n, _, h => by simp [scan] at h
  | c :: r, k, U, v, n, hk, h => by
    have hcb := c.toNat_lt
    unfold scan at h
    split at h
    · simp at h
    · rename_i hbad
      split at h
      · rename_i hc
        simp only [Prod.mk.injEq, true_and] at h
        obtain ⟨rfl, rfl⟩ := h
        refine ⟨c.toNat, by rw [Nat.mod_eq_of_lt hc], by rw [uintB_small hc]; rfl, ?_, by omega⟩
        rw [uintB_small hc, u8_self, show k + 1 - k = 1 by omega]
        rfl
      · rename_i hc
        obtain ⟨w, h1, h2, h3, h4⟩ := scan_of r (k + 1) _ v n (by omega) h
        have hw := h4 (by omega)
        have hbig : ¬ (c.toNat % 128 + 128 * w) < 128 := by omega
        refine ⟨c.toNat % 128 + 128 * w, ?_, ?_, ?_, by omega⟩
        · rw [h1, Nat.pow_succ, Nat.add_mul, Nat.add_assoc]
          congr 2
          rw [Nat.mul_comm 128 w, Nat.mul_assoc, Nat.mul_comm 128]
        · rw [uintB_big hbig, show (c.toNat % 128 + 128 * w) / 128 = w by omega, h2]
          simp; omega
        · rw [uintB_big hbig, show (c.toNat % 128 + 128 * w) / 128 = w by omega, show 128 + (c.toNat % 128 + 128 * w) % 128 = c.toNat by omega, u8_self]
          rw [show n - k = (n - (k + 1)) + 1 by omega]
          simp only [List.cons_append, List.drop_succ_cons]
          rw [← h3]

theorem drop_app {s l r : List UInt8} {p : Nat} (h : s.drop p = l ++ r) : s.drop (p + l.length) = r := by
  rw [← List.drop_drop, h]; simp
theorem readU_uint {s r : List UInt8} {p u : Nat} (h : s.drop p = uintB u ++ r) (hu : u < 18446744073709551616) : readU s p 0 = (u, p + (uintB u).length, 0) := by
  have := scan_uint _ u 0 0 r rfl (by omega) (by omega) (by omega)
  rw [readU_of (h ▸ this)]
  simp
end Go.A
