/- Decimals, plain: what Parse and Text compute, and that a number's text is that number. · Decimals, plain: rounded, floors, roots. -/
import Derived.Lib.ItoaNum
import Derived.Lib.TrimByte
import Derived.Lib.IndexMore
import Derived.Lib.IndexBytes
namespace Go.A
set_option maxRecDepth 100000
set_option linter.unusedSimpArgs false
set_option linter.unusedVariables false

/-- A number of a sign and a size. -/
def madeP (minus : Bool) (n : Nat) : Option Int := if n ≤ 999999999999999999 then some (if minus = true then -(n : Int) else n) else none
/-- Digits read. -/
def accP : Nat → List UInt8 → Option Nat
  | n, [] => some n
  | n, c :: l => if c.toNat < 48 ∨ 57 < c.toNat ∨ 99999999999999999 < n then none else accP (10 * n + (c.toNat - 48)) l
def parseQ (minus : Bool) (whole part : List UInt8) (dot : Bool) : Option Int :=
  if whole = [] ∨ dot = true ∧ (part = [] ∨ 4 < part.length) then none
  else (accP 0 (whole ++ part ++ List.replicate (4 - part.length) 48)).bind (madeP minus)
def parseD (s : List UInt8) : Option Int :=
  let b := if s.head? = some 45 then s.drop 1 else s
  parseQ (decide (s.head? = some 45)) (Lib.cut b [46]).1 (Lib.cut b [46]).2.1 (Lib.cut b [46]).2.2
/-- What stands behind the point. -/
def placesP (p : Nat) : List UInt8 := if p = 0 then [] else 46 :: Lib.trimRightB (Lib.decDigits (10000 + p)).tail 48
def textD (a : Int) : List UInt8 := (if a < 0 then [45] else []) ++ (Lib.decDigits (a.natAbs / 10000) ++ placesP (a.natAbs % 10000))

/-- The first c of a text. -/
theorem cut_one (c : UInt8) : ∀ (a x : List UInt8), (∀ b ∈ a, b ≠ c) → Lib.cut (a ++ c :: x) [c] = (a, x, true) := by
  intro a x h
  have hi : Lib.index (a ++ c :: x) [c] = a.length := by
    rw [Lib.index_one]
    induction a with
    | nil => simp [Lib.indexByte]
    | cons b a ih =>
      have h1 : b ≠ c := h b (by simp)
      have := ih fun d hd => h d (by simp [hd])
      rw [List.cons_append, Lib.indexByte, this]
      have h2 : (b == c) = false := by simpa using h1
      rw [h2]
      have h3 : ((a.length : Int) == -1) = false := by rw [beq_eq_false_iff_ne]; omega
      simp [h3]
  unfold Lib.cut
  rw [hi, if_pos (by omega)]
  have e : (a.length : Int).toNat = a.length := by omega
  rw [e, List.take_left]
  have e2 : (a ++ c :: x).drop (a.length + [c].length) = x := by
    rw [← List.drop_drop, List.drop_left]
    rfl
  rw [e2]
theorem cut_none (c : UInt8) : ∀ (a : List UInt8), (∀ b ∈ a, b ≠ c) → Lib.cut a [c] = (a, [], false) := by
  intro a h
  have hi : Lib.index a [c] = -1 := by
    rw [Lib.index_one]
    induction a with
    | nil => rfl
    | cons b a ih =>
      have h1 : b ≠ c := h b (by simp)
      have := ih fun d hd => h d (by simp [hd])
      rw [Lib.indexByte, this]
      have h2 : (b == c) = false := by simpa using h1
      rw [h2]
      simp
  unfold Lib.cut
  rw [hi, if_neg (by omega)]

theorem dd_small {n : Nat} (h : n < 10) : Lib.decDigits n = [UInt8.ofNat (48 + n)] := by rw [Lib.decDigits, dif_pos h]
theorem dd_big {n : Nat} (h : ¬ n < 10) : Lib.decDigits n = Lib.decDigits (n / 10) ++ [UInt8.ofNat (48 + n % 10)] := by rw [Lib.decDigits, dif_neg h]
theorem dig_nat {k : Nat} (h : k < 10) : (UInt8.ofNat (48 + k)).toNat = 48 + k := by
  rw [UInt8.toNat_ofNat']
  omega
/-- Digits of a number: digits, at least one. -/
theorem dd_all : ∀ (n : Nat), (∀ c ∈ Lib.decDigits n, 48 ≤ c.toNat ∧ c.toNat ≤ 57) ∧ Lib.decDigits n ≠ [] := by
  intro n
  induction n using Nat.strongRecOn with
  | _ n ih =>
    by_cases h : n < 10
    · rw [dd_small h]
      refine ⟨fun c hc => ?_, by simp⟩
      simp only [List.mem_singleton] at hc
      subst hc
      rw [dig_nat h]
      omega
    · rw [dd_big h]
      refine ⟨fun c hc => ?_, by simp⟩
      rcases List.mem_append.1 hc with hc | hc
      · exact (ih (n / 10) (by omega)).1 c hc
      · simp only [List.mem_singleton] at hc
        subst hc
        rw [dig_nat (by omega)]
        omega
theorem acc_dd : ∀ (n : Nat) (x : List UInt8), n ≤ 999999999999999999 → accP 0 (Lib.decDigits n ++ x) = accP n x := by
  intro n
  induction n using Nat.strongRecOn with
  | _ n ih =>
    intro x hn
    by_cases h : n < 10
    · rw [dd_small h, List.singleton_append, accP, dig_nat h, if_neg (by omega)]
      rw [show 10 * 0 + (48 + n - 48) = n by omega]
    · rw [dd_big h, List.append_assoc, ih (n / 10) (by omega) _ (by omega), List.singleton_append, accP, dig_nat (by omega), if_neg (by omega)]
      rw [show 10 * (n / 10) + (48 + n % 10 - 48) = n by omega]
/-- Four digits. -/
def fourP (p : Nat) : List UInt8 := [UInt8.ofNat (48 + p / 1000), UInt8.ofNat (48 + p / 100 % 10), UInt8.ofNat (48 + p / 10 % 10), UInt8.ofNat (48 + p % 10)]
theorem acc_four {n p : Nat} (hp : p < 10000) (hn : 10000 * n + p ≤ 999999999999999999) : accP n (fourP p) = some (10000 * n + p) := by
  unfold fourP
  rw [accP, dig_nat (by omega), if_neg (by omega), accP, dig_nat (by omega), if_neg (by omega), accP, dig_nat (by omega), if_neg (by omega), accP, dig_nat (by omega), if_neg (by omega), accP]
  congr 1
  omega
theorem dd_four {p : Nat} (hp : p < 10000) : (Lib.decDigits (10000 + p)).tail = fourP p := by
  rw [dd_big (by omega), dd_big (by omega), dd_big (by omega), dd_big (by omega), dd_small (by omega)]
  unfold fourP
  simp only [List.singleton_append, List.append_assoc, List.tail_cons, List.cons_append, List.nil_append]
  congr 1
  · congr 1; omega
  congr 1
  · congr 1; omega
  congr 1
  · congr 1; omega
  congr 1
  · congr 1; omega
/-- Noughts that are cut off behind, and set again. -/
theorem trim_back (c : UInt8) (l : List UInt8) : Lib.trimRightB l c ++ List.replicate (l.length - (Lib.trimRightB l c).length) c = l := by
  unfold Lib.trimRightB
  rw [List.length_reverse]
  have key : ∀ r : List UInt8, List.replicate (r.length - (r.dropWhile (· == c)).length) c ++ r.dropWhile (· == c) = r := by
    intro r
    induction r with
    | nil => rfl
    | cons b r ih =>
      by_cases h : b = c
      · subst h
        have hle : (r.dropWhile (· == b)).length ≤ r.length := (List.dropWhile_sublist _).length_le
        rw [List.dropWhile_cons, if_pos (by simp), List.length_cons, show r.length + 1 - (r.dropWhile (· == b)).length = (r.length - (r.dropWhile (· == b)).length) + 1 by omega, List.replicate_succ, List.cons_append, ih]
      · rw [List.dropWhile_cons, if_neg (by simpa using h)]
        simp
  have := congrArg List.reverse (key l.reverse)
  rw [List.reverse_append, List.reverse_reverse, List.reverse_replicate, List.length_reverse] at this
  exact this
theorem trim_sub (c : UInt8) (l : List UInt8) : ∀ b ∈ Lib.trimRightB l c, b ∈ l := by
  intro b hb
  unfold Lib.trimRightB at hb
  have := (List.dropWhile_sublist _).subset (List.mem_reverse.1 hb)
  simpa using this
theorem trim_nil {c : UInt8} {l : List UInt8} (h : Lib.trimRightB l c = []) : ∀ b ∈ l, b = c := by
  have := trim_back c l
  rw [h, List.nil_append, List.length_nil, Nat.sub_zero] at this
  intro b hb
  rw [← this] at hb
  exact (List.mem_replicate.1 hb).2
theorem four_all {p : Nat} (hp : p < 10000) : ∀ c ∈ fourP p, 48 ≤ c.toNat ∧ c.toNat ≤ 57 := by
  intro c hc
  simp only [fourP, List.mem_cons, List.not_mem_nil, or_false] at hc
  rcases hc with rfl | rfl | rfl | rfl <;> rw [dig_nat (by omega)] <;> omega
theorem dd_len_pos (n : Nat) : Lib.decDigits n ≠ [] := (dd_all n).2
theorem ne_of_digit {c : UInt8} {k : UInt8} (h : 48 ≤ c.toNat) (hk : k.toNat < 48) : c ≠ k := by
  rintro rfl; omega
/-- THERE AND BACK: a number's text, read, is that number. -/
theorem parse_text_d {a : Int} (ha : a.natAbs ≤ 999999999999999999) : parseD (textD a) = some a := by
  have hw : a.natAbs / 10000 ≤ 999999999999999999 := by omega
  obtain ⟨d1, d2⟩ := dd_all (a.natAbs / 10000)
  have hh : ∀ x, (Lib.decDigits (a.natAbs / 10000) ++ x).head? ≠ some 45 := by
    intro x hx
    cases hd : Lib.decDigits (a.natAbs / 10000) with
    | nil => exact d2 hd
    | cons c l =>
      rw [hd] at hx
      simp only [List.cons_append, List.head?_cons, Option.some.injEq] at hx
      have := (d1 c (by rw [hd]; simp)).1
      rw [hx] at this
      exact absurd this (by decide)
  have body : ∀ minus : Bool, (∀ n : Nat, n = a.natAbs → (if minus = true then -(n : Int) else n) = a) →
      parseQ minus (Lib.cut (Lib.decDigits (a.natAbs / 10000) ++ placesP (a.natAbs % 10000)) [46]).1 (Lib.cut (Lib.decDigits (a.natAbs / 10000) ++ placesP (a.natAbs % 10000)) [46]).2.1 (Lib.cut (Lib.decDigits (a.natAbs / 10000) ++ placesP (a.natAbs % 10000)) [46]).2.2 = some a := by
    intro minus hm
    have hp : a.natAbs % 10000 < 10000 := by omega
    have hd46 : ∀ b ∈ Lib.decDigits (a.natAbs / 10000), b ≠ 46 := fun b hb => ne_of_digit (d1 b hb).1 (by decide)
    by_cases h0 : a.natAbs % 10000 = 0
    · have e : placesP (a.natAbs % 10000) = [] := by rw [placesP, if_pos h0]
      rw [e, List.append_nil, cut_none 46 _ hd46]
      unfold parseQ
      rw [if_neg (by simp [d2])]
      have e4 : List.replicate (4 - ([] : List UInt8).length) (48 : UInt8) = fourP 0 := by decide
      rw [List.append_nil, e4, acc_dd _ _ hw, acc_four (by omega) (by omega)]
      simp only [Option.bind_some, madeP]
      rw [if_pos (by omega), hm _ (by omega)]
    · have e : placesP (a.natAbs % 10000) = 46 :: Lib.trimRightB (fourP (a.natAbs % 10000)) 48 := by rw [placesP, if_neg h0, dd_four hp]
      rw [e, cut_one 46 _ _ hd46]
      have t1 := trim_back 48 (fourP (a.natAbs % 10000))
      have t2 : (Lib.trimRightB (fourP (a.natAbs % 10000)) 48).length ≤ 4 := by
        have := congrArg List.length t1
        rw [List.length_append] at this
        have e4 : (fourP (a.natAbs % 10000)).length = 4 := rfl
        omega
      have t3 : Lib.trimRightB (fourP (a.natAbs % 10000)) 48 ≠ [] := by
        intro h
        have h1 := trim_nil h
        unfold fourP at h1
        have g1 := congrArg UInt8.toNat (h1 (UInt8.ofNat (48 + a.natAbs % 10000 / 1000)) (by simp))
        have g2 := congrArg UInt8.toNat (h1 (UInt8.ofNat (48 + a.natAbs % 10000 / 100 % 10)) (by simp))
        have g3 := congrArg UInt8.toNat (h1 (UInt8.ofNat (48 + a.natAbs % 10000 / 10 % 10)) (by simp))
        have g4 := congrArg UInt8.toNat (h1 (UInt8.ofNat (48 + a.natAbs % 10000 % 10)) (by simp))
        rw [dig_nat (by omega)] at g1 g2 g3 g4
        have e48 : (48 : UInt8).toNat = 48 := rfl
        rw [e48] at g1 g2 g3 g4
        omega
      unfold parseQ
      rw [if_neg (by simp [d2, t3]; omega)]
      have e4 : (fourP (a.natAbs % 10000)).length = 4 := rfl
      rw [e4] at t1
      rw [List.append_assoc, t1, acc_dd _ _ hw, acc_four hp (by omega)]
      simp only [Option.bind_some, madeP]
      rw [if_pos (by omega), hm _ (by omega)]
  unfold parseD textD
  by_cases hn : a < 0
  · rw [if_pos hn]
    simp only [List.singleton_append, List.head?_cons, if_true, List.drop_succ_cons, List.drop_zero, decide_true]
    exact body true fun n hn' => by simp; omega
  · rw [if_neg hn, List.nil_append]
    simp only [hh, if_false, decide_false]
    exact body false fun n hn' => by simp; omega
end Go.A
namespace Go.A
set_option maxRecDepth 100000
set_option linter.unusedSimpArgs false
set_option linter.unusedVariables false

/-- Halves away from nought, of a size. -/
def rndN (s u : Nat) : Nat := if u - s % u ≤ s % u then s - s % u + u else s - s % u
/-- What a place is worth (places 4 and more: 1). -/
def roundP (a : Int) (u : Nat) : Option Int := madeP (decide (a < 0)) (rndN a.natAbs u)
theorem rndN_near {s u : Nat} (hu : u = 1 ∨ u = 10 ∨ u = 100 ∨ u = 1000 ∨ u = 10000) : rndN s u % u = 0 ∧ 2 * ((s : Int) - rndN s u).natAbs ≤ u ∧ rndN (rndN s u) u = rndN s u := by
  rcases hu with rfl | rfl | rfl | rfl | rfl <;> unfold rndN <;> (split <;> (refine ⟨by omega, by omega, ?_⟩; split <;> omega))
theorem round_near {a r : Int} {u : Nat} (hu : u = 1 ∨ u = 10 ∨ u = 100 ∨ u = 1000 ∨ u = 10000) (h : roundP a u = some r) :
    r.natAbs % u = 0 ∧ 2 * (a - r).natAbs ≤ u ∧ roundP r u = some r ∧ r.natAbs ≤ 999999999999999999 := by
  obtain ⟨h1, h2, h3⟩ := rndN_near (s := a.natAbs) hu
  unfold roundP madeP at h
  split at h
  · rename_i hm
    injection h with h
    have hr : r.natAbs = rndN a.natAbs u := by rw [← h]; split <;> omega
    refine ⟨by rw [hr]; exact h1, ?_, ?_, by omega⟩
    · rw [← h]
      simp only [decide_eq_true_eq]
      split <;> omega
    · unfold roundP madeP
      rw [hr, h3, if_pos hm]
      congr 1
      rw [← h]
      simp only [decide_eq_true_eq]
      generalize rndN a.natAbs u = q at *
      split <;> (split <;> omega)
  · cases h

/-- What is left, above nought. -/
theorem emod_left {a b : Int} (hb : 0 < b) : (if a.tmod b ≠ 0 ∧ ¬ (decide (a.tmod b < 0) = decide (b < 0)) then a.tmod b + b else a.tmod b) = a % b := by
  have h1 := Int.emod_nonneg a (Int.ne_of_gt hb)
  have h2 := Int.emod_lt_of_pos a hb
  have h3 : decide (b < 0) = false := by simp; omega
  rw [h3]
  rcases Int.lt_or_le a 0 with hn | hp
  · have e : a.tmod b = -((-a) % b) := by
      rw [show a = -(-a) by omega, Int.neg_tmod, Int.tmod_eq_emod_of_nonneg (by omega)]
      simp
    have g1 := Int.emod_nonneg (-a) (Int.ne_of_gt hb)
    have g2 := Int.emod_lt_of_pos (-a) hb
    have key : (-(-a)) % b = if (-a) % b = 0 then 0 else b - (-a) % b := by
      split
      · rename_i h0
        exact Int.emod_eq_zero_of_dvd ((Int.dvd_neg).2 (Int.dvd_of_emod_eq_zero h0))
      · rw [Int.neg_emod]
        rw [if_neg (fun hd => by rename_i h0; exact h0 (Int.emod_eq_zero_of_dvd hd))]
        omega
    rw [show -(-a) = a by omega] at key
    rw [e, key]
    by_cases h0 : (-a) % b = 0
    · rw [h0]; simp
    · rw [if_neg h0, if_pos ⟨by omega, by simp; omega⟩]
      omega
  · rw [Int.tmod_eq_emod_of_nonneg hp, if_neg]
    rintro ⟨_, h⟩
    simp at h
    omega
/-- Ceil by Floor. -/
theorem neg_emod_left {a b : Int} (hb : 0 < b) : (-a) % b = if a % b = 0 then 0 else b - a % b := by
  have g1 := Int.emod_nonneg a (Int.ne_of_gt hb)
  split
  · rename_i h0
    exact Int.emod_eq_zero_of_dvd ((Int.dvd_neg).2 (Int.dvd_of_emod_eq_zero h0))
  · rename_i h0
    rw [Int.neg_emod, if_neg (fun hd => h0 (Int.emod_eq_zero_of_dvd hd))]
    omega

/-- The root, bit by bit: i bits are left. -/
def rootP (n : Nat) : Nat → Nat → Nat
  | 0, r => r
  | i + 1, r => rootP n i (if (r + 2 ^ i) * (r + 2 ^ i) ≤ n then r + 2 ^ i else r)
theorem rootP_is : ∀ (n i r : Nat), r * r ≤ n → n < (r + 2 ^ i) * (r + 2 ^ i) → rootP n i r * rootP n i r ≤ n ∧ n < (rootP n i r + 1) * (rootP n i r + 1)
  | n, 0, r, h1, h2 => ⟨h1, by simpa [rootP] using h2⟩
  | n, i + 1, r, h1, h2 => by
    unfold rootP
    rw [Nat.pow_succ] at h2
    split
    · rename_i h
      exact rootP_is n i _ h (by rw [show r + 2 ^ i + 2 ^ i = r + 2 ^ i * 2 by omega]; exact h2)
    · rename_i h
      exact rootP_is n i _ h1 (by omega)
/-- A root's bits are set where there were none. -/
theorem or_bit {r i : Nat} (h : 2 ^ (i + 1) ∣ r) : r ||| 2 ^ i = r + 2 ^ i := by
  obtain ⟨q, rfl⟩ := h
  rw [Nat.two_pow_add_eq_or_of_lt (b := 2 ^ i) (i := i + 1) (Nat.pow_lt_pow_right (by omega) (by omega)) q]
theorem dd_len : ∀ (k n : Nat), n < 10 ^ (k + 1) → (Lib.decDigits n).length ≤ k + 1
  | 0, n, h => by rw [dd_small (by simpa using h)]; simp
  | k + 1, n, h => by
    by_cases h1 : n < 10
    · rw [dd_small h1]; simp
    · rw [dd_big h1, List.length_append]
      have := dd_len k (n / 10) (by rw [Nat.pow_succ] at h; omega)
      simp
      omega
end Go.A
