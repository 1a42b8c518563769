/- Decimals, plain: rounded, floors, roots. -/
import Derived.Test.YtpedaofcndaooaaDoorHa
namespace Go.A
set_option maxRecDepth 100000
set_option linter.unusedSimpArgs false
set_option linter.unusedVariables false

/-- Halves away from nought, of a size. -/
def rndN (s u : Nat) : Nat := if u - s % u ≤ s % u then s - s % u + u else s - s % u
/-- What a place is worth (places 4 and more: 1). -/
def roundP (a : Int) (u : Nat) : Option Int := madeP (decide (a < 0)) (rndN a.natAbs u)
theorem rndN_near {s u : Nat} (hu : u = 1 ∨ u = 10 ∨ u = 100 ∨ u = 1000 ∨ u = 10000) : rndN s u % u = 0 ∧ 2 * ((s : Int) - rndN s u).natAbs ≤ u ∧ rndN (rndN s u) u = rndN s u := by
  rcases hu with rfl | rfl | rfl | rfl | rfl <;> unfold rndN <;> (split <;> (refine ⟨by omega, by omega, ?_⟩; split <;> omega))
theorem round_near {a r : Int} {u : Nat} (hu : u = 1 ∨ u = 10 ∨ u = 100 ∨ u = 1000 ∨ u = 10000) (h : roundP a u = some r) :
    r.natAbs % u = 0 ∧ 2 * (a - r).natAbs ≤ u ∧ roundP r u = some r ∧ r.natAbs ≤ 999999999999999999 := by
  obtain ⟨h1, h2, h3⟩ := rndN_near (s := a.natAbs) hu
  unfold roundP madeP at h
  split at h
  · rename_i hm
    injection h with h
    have hr : r.natAbs = rndN a.natAbs u := by rw [← h]; split <;> omega
    refine ⟨by rw [hr]; exact h1, ?_, ?_, by omega⟩
    · rw [← h]
      simp only [decide_eq_true_eq]
      split <;> omega
    · unfold roundP madeP
      rw [hr, h3, if_pos hm]
      congr 1
      rw [← h]
      simp only [decide_eq_true_eq]
      generalize rndN a.natAbs u = q at *
      split <;> (split <;> omega)
  · cases h

/-- What is left, above nought. -/
theorem emod_left {a b : Int} (hb : 0 < b) : (if a.tmod b ≠ 0 ∧ ¬ (decide (a.tmod b < 0) = decide (b < 0)) then a.tmod b + b else a.tmod b) = a % b := by
  have h1 := Int.emod_nonneg a (Int.ne_of_gt hb)
  have h2 := Int.emod_lt_of_pos a hb
  have h3 : decide (b < 0) = false := by simp; omega
  rw [h3]
  rcases Int.lt_or_le a 0 with hn | hp
  · have e : a.tmod b = -((-a) % b) := by
      rw [show a = -(-a) by omega, Int.neg_tmod, Int.tmod_eq_emod_of_nonneg (by omega)]
      simp
    have g1 := Int.emod_nonneg (-a) (Int.ne_of_gt hb)
    have g2 := Int.emod_lt_of_pos (-a) hb
    have key : (-(-a)) % b = if (-a) % b = 0 then 0 else b - (-a) % b := by
      split
      · rename_i h0
        exact Int.emod_eq_zero_of_dvd ((Int.dvd_neg).2 (Int.dvd_of_emod_eq_zero h0))
      · rw [Int.neg_emod]
        rw [if_neg (fun hd => by rename_i h0; exact h0 (Int.emod_eq_zero_of_dvd hd))]
        omega
    rw [show -(-a) = a by omega] at key
    rw [e, key]
    by_cases h0 : (-a) % b = 0
    · rw [h0]; simp
    · rw [if_neg h0, if_pos ⟨by omega, by simp; omega⟩]
      omega
  · rw [Int.tmod_eq_emod_of_nonneg hp, if_neg]
    rintro ⟨_, h⟩
    simp at h
    omega
/-- Ceil by Floor. -/
theorem neg_emod_left {a b : Int} (hb : 0 < b) : (-a) % b = if a % b = 0 then 0 else b - a % b := by
  have g1 := Int.emod_nonneg a (Int.ne_of_gt hb)
  split
  · rename_i h0
    exact Int.emod_eq_zero_of_dvd ((Int.dvd_neg).2 (Int.dvd_of_emod_eq_zero h0))
  · rename_i h0
    rw [Int.neg_emod, if_neg (fun hd => h0 (Int.emod_eq_zero_of_dvd hd))]
    omega

/-- The root, bit by bit: i bits are left. -/
def rootP (n : Nat) : Nat → Nat → Nat
  | 0, r => r
  | i + 1, r => rootP n i (if (r + 2 ^ i) * (r + 2 ^ i) ≤ n then r + 2 ^ i else r)
theorem rootP_is : ∀ (n i r : Nat), r * r ≤ n → n < (r + 2 ^ i) * (r + 2 ^ i) → rootP n i r * rootP n i r ≤ n ∧ n < (rootP n i r + 1) * (rootP n i r + 1)
  | n, 0, r, h1, h2 => ⟨h1, by simpa [rootP] using h2⟩
  | n, i + 1, r, h1, h2 => by
    unfold rootP
    rw [Nat.pow_succ] at h2
    split
    · rename_i h
      exact rootP_is n i _ h (by rw [show r + 2 ^ i + 2 ^ i = r + 2 ^ i * 2 by omega]; exact h2)
    · rename_i h
      exact rootP_is n i _ h1 (by omega)
/-- A root's bits are set where there were none. -/
theorem or_bit {r i : Nat} (h : 2 ^ (i + 1) ∣ r) : r ||| 2 ^ i = r + 2 ^ i := by
  obtain ⟨q, rfl⟩ := h
  rw [Nat.two_pow_add_eq_or_of_lt (b := 2 ^ i) (i := i + 1) (Nat.pow_lt_pow_right (by omega) (by omega)) q]
theorem dd_len : ∀ (k n : Nat), n < 10 ^ (k + 1) → (Lib.decDigits n).length ≤ k + 1
  | 0, n, h => by rw [dd_small (by simpa using h)]; simp
  | k + 1, n, h => by
    by_cases h1 : n < 10
    · rw [dd_small h1]; simp
    · rw [dd_big h1, List.length_append]
      have := dd_len k (n / 10) (by rw [Nat.pow_succ] at h; omega)
      simp
      omega
end Go.A
