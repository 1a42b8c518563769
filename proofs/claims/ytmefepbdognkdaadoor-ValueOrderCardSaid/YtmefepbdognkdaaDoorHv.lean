/- The document's helpers of tabularref01: digits, noughts, values; plain values of digits. · The document's Inc and Cut of tabularref01. · The document's Cut of tabularref01. · What the document's Cut comes to: rounding. Plain. -/
import Derived.Test.YtmefepbdognkdaaDoorHg
import Derived.Test.YtmefepbdognkdaaDoorBp
namespace Go.A
open Go.Proofs
set_option maxRecDepth 100000
set_option linter.unusedSimpArgs false
set_option linter.unusedVariables false

/-- Digits of any number. -/
theorem dec_step (n : Nat) : Lib.decDigits n = if n < 10 then [UInt8.ofNat (48 + n)] else Lib.decDigits (n / 10) ++ [UInt8.ofNat (48 + n % 10)] := by
  rw [Lib.decDigits]
  by_cases h1 : n < 10
  · rw [dif_pos h1, if_pos h1]
  · rw [dif_neg h1, if_neg h1]
/-- All digits. -/
def AllD (l : List UInt8) : Prop := ∀ c ∈ l, 48 ≤ c.toNat ∧ c.toNat ≤ 57
/-- What digits are worth. -/
def nv : List UInt8 → Nat
  | [] => 0
  | c :: l => (c.toNat - 48) * 10 ^ l.length + nv l
theorem nv_lt : ∀ {l : List UInt8}, AllD l → nv l < 10 ^ l.length
  | [], _ => by simp [nv]
  | c :: l, h => by
    have h1 := nv_lt fun d hd => h d (List.mem_cons_of_mem _ hd)
    have h2 := h c (List.mem_cons_self)
    have h3 : (c.toNat - 48) * 10 ^ l.length ≤ 9 * 10 ^ l.length := Nat.mul_le_mul_right _ (by omega)
    simp only [nv, List.length_cons, Nat.pow_succ]
    omega
theorem nv_app : ∀ (l m : List UInt8), nv (l ++ m) = nv l * 10 ^ m.length + nv m
  | [], m => by simp [nv]
  | c :: l, m => by
    rw [List.cons_append, nv, nv_app l m, nv, List.length_append, Nat.pow_add, Nat.add_mul, Nat.mul_assoc, Nat.add_assoc]
theorem nv_zeros (k : Nat) : nv (List.replicate k 48) = 0 := by
  induction k with
  | zero => rfl
  | succ k ih => rw [List.replicate_succ, nv, ih]; simp
theorem nv_dd : ∀ (n : Nat), nv (Lib.decDigits n) = n := by
  intro n
  induction n using Nat.strongRecOn with
  | _ n ih =>
    by_cases h : n < 10
    · rw [dd_small h]
      simp only [nv, dig_nat h, List.length_nil]
      omega
    · rw [dd_big h, nv_app, ih (n / 10) (by omega)]
      simp only [nv, dig_nat (show n % 10 < 10 by omega), List.length_cons, List.length_nil]
      omega
/-- Reading digits: the number, if it fits. -/
theorem acc_total : ∀ {l : List UInt8} {n : Nat}, AllD l → n ≤ 999999999999999999 → accP n l = if n * 10 ^ l.length + nv l ≤ 999999999999999999 then some (n * 10 ^ l.length + nv l) else none
  | [], n, _, hn => by simp [accP, nv, hn]
  | c :: l, n, h, hn => by
    have h2 := h c (List.mem_cons_self)
    have hl : AllD l := fun d hd => h d (List.mem_cons_of_mem _ hd)
    have hp : 0 < 10 ^ l.length := Nat.pow_pos (by omega)
    have e : n * 10 ^ (c :: l).length + nv (c :: l) = (10 * n + (c.toNat - 48)) * 10 ^ l.length + nv l := by
      rw [nv, List.length_cons, Nat.pow_succ, Nat.add_mul, Nat.mul_comm 10 n, ← Nat.mul_assoc, Nat.mul_right_comm n]
      omega
    rw [accP, e]
    by_cases hb : 99999999999999999 < n
    · rw [if_pos (by omega), if_neg]
      have := Nat.mul_le_mul (show 1000000000000000000 ≤ 10 * n + (c.toNat - 48) by omega) hp
      omega
    · rw [if_neg (by omega), acc_total hl (by omega)]
def stripP (l : List UInt8) : List UInt8 := l.dropWhile (· == 48)
theorem nv_strip : ∀ (l : List UInt8), nv (stripP l) = nv l
  | [] => rfl
  | c :: l => by
    unfold stripP
    by_cases h : c = 48
    · subst h
      rw [List.dropWhile_cons, if_pos (by rfl)]
      have := nv_strip l
      unfold stripP at this
      rw [this, nv]
      simp
    · rw [List.dropWhile_cons, if_neg (by simpa using h)]
/-- What Value computes. -/
def valP (m : Bool) (l : List UInt8) : Option Int := madeP m (nv l)
end Go.A
namespace Go.A
open Go.Proofs
set_option maxRecDepth 100000
set_option linter.unusedSimpArgs false
set_option linter.unusedVariables false

/-- One more, of digits; true: the carry is left. -/
def incC : List UInt8 → List UInt8 × Bool
  | [] => ([], true)
  | c :: l => if (incC l).2 = true then (if c.toNat < 57 then ((c + 1) :: (incC l).1, false) else (48 :: (incC l).1, true)) else (c :: (incC l).1, false)
def incP (s : List UInt8) : List UInt8 := if (incC s).2 = true then 49 :: (incC s).1 else (incC s).1
theorem incC_len : ∀ (l : List UInt8), (incC l).1.length = l.length
  | [] => rfl
  | c :: l => by
    rw [incC]
    have := incC_len l
    split
    · split <;> simp [this]
    · simp [this]
theorem succ_nat {c : UInt8} (h : c.toNat < 57) : (c + 1).toNat = c.toNat + 1 := by
  rw [UInt8.toNat_add, UInt8.toNat_one]
  omega
theorem incC_law : ∀ {l : List UInt8}, AllD l → AllD (incC l).1 ∧ nv (incC l).1 + (if (incC l).2 = true then 10 ^ l.length else 0) = nv l + 1
  | [], _ => ⟨by simp [incC, AllD], by simp [incC, nv]⟩
  | c :: l, h => by
    have hl : AllD l := fun d hd => h d (List.mem_cons_of_mem _ hd)
    have hc := h c (List.mem_cons_self)
    obtain ⟨h1, h2⟩ := incC_law hl
    have hlen := incC_len l
    rw [incC]
    by_cases hk : (incC l).2 = true
    · rw [if_pos hk] at h2 ⊢
      by_cases h57 : c.toNat < 57
      · rw [if_pos h57]
        have hs := succ_nat h57
        refine ⟨fun d hd => ?_, ?_⟩
        · rcases List.mem_cons.1 hd with rfl | hd
          · omega
          · exact h1 d hd
        · simp only [nv, hs, hlen, Bool.false_eq_true, if_false]
          rw [show c.toNat + 1 - 48 = (c.toNat - 48) + 1 by omega, Nat.add_mul]
          omega
      · rw [if_neg h57]
        refine ⟨fun d hd => ?_, ?_⟩
        · rcases List.mem_cons.1 hd with rfl | hd
          · decide
          · exact h1 d hd
        · simp only [nv, hlen, if_true, List.length_cons, Nat.pow_succ]
          rw [show c.toNat - 48 = 9 by omega]
          have e : (48 : UInt8).toNat = 48 := rfl
          rw [e]
          omega
    · rw [if_neg hk] at h2 ⊢
      refine ⟨fun d hd => ?_, ?_⟩
      · rcases List.mem_cons.1 hd with rfl | hd
        · exact hc
        · exact h1 d hd
      · simp only [nv, hlen, Bool.false_eq_true, if_false]
        omega
theorem incP_law {l : List UInt8} (h : AllD l) : AllD (incP l) ∧ nv (incP l) = nv l + 1 := by
  obtain ⟨h1, h2⟩ := incC_law h
  have hlen := incC_len l
  unfold incP
  split
  · rename_i hk
    rw [if_pos hk] at h2
    refine ⟨fun d hd => ?_, ?_⟩
    · rcases List.mem_cons.1 hd with rfl | hd
      · decide
      · exact h1 d hd
    · have e : (49 : UInt8).toNat = 49 := rfl
      simp only [nv, hlen, e]
      omega
  · rename_i hk
    rw [if_neg hk] at h2
    exact ⟨h1, by omega⟩
theorem incC_left : ∀ {p q q' : List UInt8}, incC q = (q', false) → incC (p ++ q) = (p ++ q', false)
  | [], q, q', h => h
  | c :: p, q, q', h => by
    rw [List.cons_append, incC, incC_left h]
    rfl
end Go.A
namespace Go.A
open Go.Proofs
set_option maxRecDepth 100000
set_option linter.unusedSimpArgs false
set_option linter.unusedVariables false

/-- Noughts ahead, till there are more than n digits. -/
def padP (s : List UInt8) (n : Nat) : List UInt8 := List.replicate (n + 1 - s.length) 48 ++ s
def cutD (s : List UInt8) (n : Nat) : List UInt8 :=
  if n = 0 then padP s n else if 53 ≤ (((padP s n)[(padP s n).length - n]?).getD 0).toNat then incP ((padP s n).take ((padP s n).length - n)) else (padP s n).take ((padP s n).length - n)
theorem padP_more {s : List UInt8} {n : Nat} (h : s.length ≤ n) : padP (48 :: s) n = padP s n := by
  unfold padP
  rw [List.length_cons, show n + 1 - s.length = (n + 1 - (s.length + 1)) + 1 by omega, List.replicate_succ', List.append_assoc]
  rfl
theorem padP_done {s : List UInt8} {n : Nat} (h : n < s.length) : padP s n = s := by
  unfold padP
  rw [show n + 1 - s.length = 0 by omega]
  rfl
end Go.A
namespace Go.A
open Go.Proofs
set_option maxRecDepth 100000
set_option linter.unusedSimpArgs false
set_option linter.unusedVariables false

theorem nv_pad (s : List UInt8) (n : Nat) : nv (padP s n) = nv s := by
  unfold padP
  rw [nv_app, nv_zeros]
  omega
theorem allD_pad {s : List UInt8} (h : AllD s) (n : Nat) : AllD (padP s n) := by
  intro c hc
  rcases List.mem_append.1 hc with hc | hc
  · obtain ⟨_, rfl⟩ := List.mem_replicate.1 hc
    decide
  · exact h c hc
theorem pad_len (s : List UInt8) (n : Nat) : n < (padP s n).length := by
  unfold padP
  simp
  omega
/-- The digits without the last n, rounded: n noughts behind them it is the rounded number. -/
theorem cut_law {s : List UInt8} (h : AllD s) {n : Nat} (hn : 0 < n) : AllD (cutD s n) ∧ nv (cutD s n) * 10 ^ n = rndN (nv s) (10 ^ n) := by
  obtain ⟨t, ht⟩ : ∃ t, padP s n = t := ⟨_, rfl⟩
  have h1 : nv t = nv s := by rw [← ht, nv_pad]
  have h2 : AllD t := ht ▸ allD_pad h n
  have h3 : n < t.length := ht ▸ pad_len s n
  unfold cutD
  rw [ht, if_neg (by omega)]
  have hk : t.length - n < t.length := by omega
  have hA : AllD (t.take (t.length - n)) := fun c hc => h2 c (List.mem_of_mem_take hc)
  obtain ⟨c, hc⟩ : ∃ c, t[t.length - n]'hk = c := ⟨_, rfl⟩
  have hdr : t.drop (t.length - n) = c :: t.drop (t.length - n + 1) := by rw [List.drop_eq_getElem_cons hk, hc]
  have hB : AllD (t.drop (t.length - n + 1)) := fun d hd => h2 d (List.mem_of_mem_drop hd)
  have hcd := h2 c (hc ▸ List.getElem_mem hk)
  have hBl : (t.drop (t.length - n + 1)).length = n - 1 := by rw [List.length_drop]; omega
  have hb := nv_lt hB
  rw [hBl] at hb
  have hval : nv t = nv (t.take (t.length - n)) * 10 ^ n + ((c.toNat - 48) * 10 ^ (n - 1) + nv (t.drop (t.length - n + 1))) := by
    have := nv_app (t.take (t.length - n)) (t.drop (t.length - n))
    rw [List.take_append_drop, List.length_drop, hdr, nv, hBl, show t.length - (t.length - n) = n by omega] at this
    exact this
  have e10 : 10 ^ n = 10 * 10 ^ (n - 1) := by
    rw [← Nat.pow_succ']
    congr 1
    omega
  rw [List.getElem?_eq_getElem hk, hc, Option.getD_some, ← h1]
  obtain ⟨i1, i2⟩ := incP_law hA
  obtain ⟨A, hAe⟩ : ∃ A, nv (t.take (t.length - n)) = A := ⟨_, rfl⟩
  rw [hAe] at hval i2
  generalize nv (t.drop (t.length - n + 1)) = b at *
  obtain ⟨d, hd⟩ : ∃ d, c.toNat - 48 = d := ⟨_, rfl⟩
  rw [hd] at hval
  generalize hw : 10 ^ (n - 1) = w at *
  have hr : nv t % 10 ^ n = d * w + b := by
    rw [hval, e10, Nat.mul_add_mod_of_lt]
    have : d * w ≤ 9 * w := Nat.mul_le_mul_right _ (by omega)
    omega
  unfold rndN
  rw [hr]
  have hu : nv t - (d * w + b) = A * 10 ^ n := by rw [hval]; omega
  rw [hu, e10]
  by_cases h5 : 53 ≤ c.toNat
  · rw [if_pos h5, if_pos]
    · exact ⟨i1, by rw [i2, Nat.add_mul]; omega⟩
    · have : 5 * w ≤ d * w := Nat.mul_le_mul_right _ (by omega)
      omega
  · rw [if_neg h5, if_neg]
    · exact ⟨hA, by rw [hAe]⟩
    · have : d * w ≤ 4 * w := Nat.mul_le_mul_right _ (by omega)
      omega
end Go.A
