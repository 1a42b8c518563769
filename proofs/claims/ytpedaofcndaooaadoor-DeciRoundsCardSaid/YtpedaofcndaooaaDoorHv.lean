/- What the document's Cut comes to: rounding. Plain. -/
import Derived.Test.YtpedaofcndaooaaDoorHu
namespace Go.A
open Go.Proofs
set_option maxRecDepth 100000
set_option linter.unusedSimpArgs false
set_option linter.unusedVariables false

theorem nv_pad (s : List UInt8) (n : Nat) : nv (padP s n) = nv s := by
  unfold padP
  rw [nv_app, nv_zeros]
  omega
theorem allD_pad {s : List UInt8} (h : AllD s) (n : Nat) : AllD (padP s n) := by
  intro c hc
  rcases List.mem_append.1 hc with hc | hc
  · obtain ⟨_, rfl⟩ := List.mem_replicate.1 hc
    decide
  · exact h c hc
theorem pad_len (s : List UInt8) (n : Nat) : n < (padP s n).length := by
  unfold padP
  simp
  omega
/-- The digits without the last n, rounded: n noughts behind them it is the rounded number. -/
theorem cut_law {s : List UInt8} (h : AllD s) {n : Nat} (hn : 0 < n) : AllD (cutD s n) ∧ nv (cutD s n) * 10 ^ n = rndN (nv s) (10 ^ n) := by
  obtain ⟨t, ht⟩ : ∃ t, padP s n = t := ⟨_, rfl⟩
  have h1 : nv t = nv s := by rw [← ht, nv_pad]
  have h2 : AllD t := ht ▸ allD_pad h n
  have h3 : n < t.length := ht ▸ pad_len s n
  unfold cutD
  rw [ht, if_neg (by omega)]
  have hk : t.length - n < t.length := by omega
  have hA : AllD (t.take (t.length - n)) := fun c hc => h2 c (List.mem_of_mem_take hc)
  obtain ⟨c, hc⟩ : ∃ c, t[t.length - n]'hk = c := ⟨_, rfl⟩
  have hdr : t.drop (t.length - n) = c :: t.drop (t.length - n + 1) := by rw [List.drop_eq_getElem_cons hk, hc]
  have hB : AllD (t.drop (t.length - n + 1)) := fun d hd => h2 d (List.mem_of_mem_drop hd)
  have hcd := h2 c (hc ▸ List.getElem_mem hk)
  have hBl : (t.drop (t.length - n + 1)).length = n - 1 := by rw [List.length_drop]; omega
  have hb := nv_lt hB
  rw [hBl] at hb
  have hval : nv t = nv (t.take (t.length - n)) * 10 ^ n + ((c.toNat - 48) * 10 ^ (n - 1) + nv (t.drop (t.length - n + 1))) := by
    have := nv_app (t.take (t.length - n)) (t.drop (t.length - n))
    rw [List.take_append_drop, List.length_drop, hdr, nv, hBl, show t.length - (t.length - n) = n by omega] at this
    exact this
  have e10 : 10 ^ n = 10 * 10 ^ (n - 1) := by
    rw [← Nat.pow_succ']
    congr 1
    omega
  rw [List.getElem?_eq_getElem hk, hc, Option.getD_some, ← h1]
  obtain ⟨i1, i2⟩ := incP_law hA
  obtain ⟨A, hAe⟩ : ∃ A, nv (t.take (t.length - n)) = A := ⟨_, rfl⟩
  rw [hAe] at hval i2
  generalize nv (t.drop (t.length - n + 1)) = b at *
  obtain ⟨d, hd⟩ : ∃ d, c.toNat - 48 = d := ⟨_, rfl⟩
  rw [hd] at hval
  generalize hw : 10 ^ (n - 1) = w at *
  have hr : nv t % 10 ^ n = d * w + b := by
    rw [hval, e10, Nat.mul_add_mod_of_lt]
    have : d * w ≤ 9 * w := Nat.mul_le_mul_right _ (by omega)
    omega
  unfold rndN
  rw [hr]
  have hu : nv t - (d * w + b) = A * 10 ^ n := by rw [hval]; omega
  rw [hu, e10]
  by_cases h5 : 53 ≤ c.toNat
  · rw [if_pos h5, if_pos]
    · exact ⟨i1, by rw [i2, Nat.add_mul]; omega⟩
    · have : 5 * w ≤ d * w := Nat.mul_le_mul_right _ (by omega)
      omega
  · rw [if_neg h5, if_neg]
    · exact ⟨hA, by rw [hAe]⟩
    · have : d * w ≤ 4 * w := Nat.mul_le_mul_right _ (by omega)
      omega
end Go.A
