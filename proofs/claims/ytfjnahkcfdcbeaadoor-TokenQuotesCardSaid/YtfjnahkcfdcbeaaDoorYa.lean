/- Decoding is local; whole signs. Plain. -/
import Derived.Test.YtfjnahkcfdcbeaaDoorZa
import Derived.Lib.ValidLaws
namespace Go.A
open Go.Proofs Go.Lib
set_option maxRecDepth 100000
set_option linter.unusedSimpArgs false
set_option linter.unusedVariables false

theorem decN0 {n b0 b1 b2 b3 : Nat} (h1 : ¬ (1 < n ∧ b1 / 64 = 2)) : decodeN n b0 b1 b2 b3 = if b0 < 128 then (b0, 1) else (65533, 1) := by
  unfold decodeN
  by_cases h0 : b0 < 128
  · rw [if_pos h0, if_pos h0]
  · rw [if_neg h0, if_neg h0, if_neg (fun h => h1 h.2), if_neg (fun h => h1 h.2.1), if_neg (fun h => h1 h.2.1)]
theorem decN1 {n b0 b1 b2 b3 : Nat} (h1 : 1 < n ∧ b1 / 64 = 2) (h2 : ¬ (2 < n ∧ b2 / 64 = 2)) : decodeN n b0 b1 b2 b3 = if b0 < 128 then (b0, 1) else if b0 / 32 = 6 then (if b0 % 32 * 64 + b1 % 64 ≥ 128 then (b0 % 32 * 64 + b1 % 64, 2) else (65533, 1)) else (65533, 1) := by
  unfold decodeN
  by_cases h0 : b0 < 128
  · rw [if_pos h0, if_pos h0]
  rw [if_neg h0, if_neg h0]
  by_cases h6 : b0 / 32 = 6
  · rw [if_pos ⟨h6, h1⟩, if_pos h6]
  · rw [if_neg (fun h => h6 h.1), if_neg h6, if_neg (fun h => h2 h.2.2), if_neg (fun h => h2 h.2.2.1)]
theorem decN2 {n m b0 b1 b2 b3 b3' : Nat} (h1 : 1 < n ∧ b1 / 64 = 2) (h2 : 2 < n ∧ b2 / 64 = 2) (h3 : ¬ (3 < n ∧ b3 / 64 = 2)) (hm : 2 < m) (h3' : ¬ (3 < m ∧ b3' / 64 = 2)) : decodeN n b0 b1 b2 b3 = decodeN m b0 b1 b2 b3' := by
  unfold decodeN
  have e1 : (1 < n ∧ b1 / 64 = 2) = (1 < m ∧ b1 / 64 = 2) := propext ⟨fun h => ⟨by omega, h.2⟩, fun h => h1⟩
  have e2 : (2 < n ∧ b2 / 64 = 2) = (2 < m ∧ b2 / 64 = 2) := propext ⟨fun h => ⟨by omega, h.2⟩, fun h => h2⟩
  simp only [e1, e2, h3, h3', and_false, if_false]
theorem decN4 {n m b0 b1 b2 b3 : Nat} (hn : 3 < n) (hm : 3 < m) : decodeN n b0 b1 b2 b3 = decodeN m b0 b1 b2 b3 := by
  unfold decodeN
  have e1 : (1 < n) = (1 < m) := propext ⟨fun _ => by omega, fun _ => by omega⟩
  have e2 : (2 < n) = (2 < m) := propext ⟨fun _ => by omega, fun _ => by omega⟩
  have e3 : (3 < n) = (3 < m) := propext ⟨fun _ => by omega, fun _ => by omega⟩
  simp only [e1, e2, e3]
/-- What goes on no sign. -/
def Stop (x : List UInt8) : Prop := ∀ c y, x = c :: y → c.toNat / 64 ≠ 2
theorem Stop.at {x : List UInt8} (h : Stop x) (m : Nat) : ¬ (m < m + x.length ∧ (x.getD 0 0).toNat / 64 = 2) := by
  rintro ⟨h1, h2⟩
  cases x with
  | nil => simp at h1
  | cons c y => exact h c y rfl h2
theorem decode_local {r x : List UInt8} (hr : r ≠ []) (hx : Stop x) : decodeL (r ++ x) = decodeL r := by
  rw [decodeL_N, decodeL_N]
  match r, hr with
  | [a], _ =>
    have h1 := hx.at 1
    have e : ([a] ++ x).length = 1 + x.length := by simp; omega
    rw [e]
    refine (decN0 ?_).trans (decN0 ?_).symm
    · exact h1
    · simp
  | [a, b], _ =>
    have h1 := hx.at 2
    have e : ([a, b] ++ x).length = 2 + x.length := by simp; omega
    rw [e]
    by_cases c1 : b.toNat / 64 = 2
    · refine (decN1 ⟨by omega, c1⟩ ?_).trans (decN1 ⟨by simp, c1⟩ ?_).symm
      · exact h1
      · simp
    · refine (decN0 ?_).trans (decN0 ?_).symm
      · exact fun h => c1 h.2
      · exact fun h => c1 h.2
  | [a, b, c], _ =>
    have h1 := hx.at 3
    have e : ([a, b, c] ++ x).length = 3 + x.length := by simp; omega
    rw [e]
    by_cases c1 : b.toNat / 64 = 2
    · by_cases c2 : c.toNat / 64 = 2
      · refine decN2 ⟨by omega, c1⟩ ⟨by omega, c2⟩ h1 (by simp) ?_
        simp
      · refine (decN1 ⟨by omega, c1⟩ ?_).trans (decN1 ⟨by simp, c1⟩ ?_).symm
        · exact fun h => c2 h.2
        · exact fun h => c2 h.2
    · refine (decN0 ?_).trans (decN0 ?_).symm
      · exact fun h => c1 h.2
      · exact fun h => c1 h.2
  | a :: b :: c :: d :: t, _ => exact decN4 (by simp) (by simp)

/-- A sign that is whole decodes the same whatever is behind it. -/
theorem decode_whole {r : List UInt8} {c w : Nat} (hr : r ≠ []) (hd : decodeL r = (c, w)) (hv : (c, w) ≠ (65533, 1)) (t : List UInt8) : decodeL (r.take w ++ t) = (c, w) := by
  have hpos := List.length_pos_iff.2 hr
  rw [decodeL_N] at hd ⊢
  have k0 := (r.getD 0 0).toNat_lt
  have k1 := (r.getD 1 0).toNat_lt
  rcases decodeN_shape r.length (r.getD 0 0).toNat (r.getD 1 0).toNat (r.getD 2 0).toNat (r.getD 3 0).toNat with ⟨c1, e⟩ | ⟨c1, c2, c3, cv, e⟩ | ⟨c1, c2, c3, c4, cv, cs, e⟩ | ⟨c1, c2, c3, c4, c5, cv, cw, e⟩ | e
  · rw [e] at hd
    injection hd with h1 h2
    subst h1 h2
    rw [takeA r hpos]
    generalize r.getD 0 0 = b0 at *
    have e0 : (([b0] ++ t).getD 0 0) = b0 := rfl
    rw [e0]
    unfold decodeN
    rw [if_pos c1]
  · rw [e] at hd
    injection hd with h1 h2
    subst h1 h2
    rw [takeB r c2]
    generalize r.getD 0 0 = b0 at *
    generalize r.getD 1 0 = b1 at *
    have e0 : (([b0, b1] ++ t).getD 0 0) = b0 := rfl
    have e1 : (([b0, b1] ++ t).getD 1 0) = b1 := rfl
    have el : 1 < ([b0, b1] ++ t).length := by simp
    rw [e0, e1]
    unfold decodeN
    rw [if_neg (by omega), if_pos ⟨c1, el, c3⟩, if_pos (by omega)]
  · rw [e] at hd
    injection hd with h1 h2
    subst h1 h2
    rw [takeC r c2]
    generalize r.getD 0 0 = b0 at *
    generalize r.getD 1 0 = b1 at *
    generalize r.getD 2 0 = b2 at *
    have e0 : (([b0, b1, b2] ++ t).getD 0 0) = b0 := rfl
    have e1 : (([b0, b1, b2] ++ t).getD 1 0) = b1 := rfl
    have e2 : (([b0, b1, b2] ++ t).getD 2 0) = b2 := rfl
    have el : 2 < ([b0, b1, b2] ++ t).length := by simp
    rw [e0, e1, e2]
    unfold decodeN
    rw [if_neg (by omega), if_neg (by omega), if_pos ⟨c1, ⟨by omega, c3⟩, el, c4⟩, if_pos (by omega)]
  · rw [e] at hd
    injection hd with h1 h2
    subst h1 h2
    rw [takeD r c2]
    generalize r.getD 0 0 = b0 at *
    generalize r.getD 1 0 = b1 at *
    generalize r.getD 2 0 = b2 at *
    generalize r.getD 3 0 = b3 at *
    have e0 : (([b0, b1, b2, b3] ++ t).getD 0 0) = b0 := rfl
    have e1 : (([b0, b1, b2, b3] ++ t).getD 1 0) = b1 := rfl
    have e2 : (([b0, b1, b2, b3] ++ t).getD 2 0) = b2 := rfl
    have e3 : (([b0, b1, b2, b3] ++ t).getD 3 0) = b3 := rfl
    have el : 3 < ([b0, b1, b2, b3] ++ t).length := by simp
    rw [e0, e1, e2, e3]
    unfold decodeN
    rw [if_neg (by omega), if_neg (by omega), if_neg (by omega), if_pos ⟨c1, ⟨by omega, c3⟩, ⟨by omega, c4⟩, el, c5⟩, if_pos (by omega)]
  · rw [e] at hd
    exact absurd hd.symm hv
end Go.A
