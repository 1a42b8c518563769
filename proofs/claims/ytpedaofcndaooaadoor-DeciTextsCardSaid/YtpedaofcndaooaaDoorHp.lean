/- The document's helpers of tabularref01: digits, noughts, values; plain values of digits. -/
import Derived.Test.YtpedaofcndaooaaDoorHg
import Derived.Test.YtpedaofcndaooaaDoorCodeEe
namespace Go.A
open Go.Proofs
set_option maxRecDepth 100000
set_option linter.unusedSimpArgs false
set_option linter.unusedVariables false

/-- Digits of any number. -/
theorem dec_step (n : Nat) : Lib.decDigits n = if n < 10 then [UInt8.ofNat (48 + n)] else Lib.decDigits (n / 10) ++ [UInt8.ofNat (48 + n % 10)] := by
  rw [Lib.decDigits]
  by_cases h1 : n < 10
  · rw [dif_pos h1, if_pos h1]
  · rw [dif_neg h1, if_neg h1]
/-- The document's digits of any number. -/
theorem rdigits_ok (n : Nat) (hn : n < 18446744073709551616) : Pure Tryd.prog 47 [.int .u64 n] (.str (Lib.decDigits n)) := by
  intro σ
  refine a47 (by simp) ?_
  obtain ⟨D, hD⟩ : ∃ D, Lib.decDigits n = D := ⟨_, rfl⟩
  rw [hD]
  simp (disch := first | assumption | omega | (simp only [List.length_append, List.length_cons, List.length_nil]; omega)) only [go_sem, reduceCtorEq, Nat.reduceEqDiff, Nat.reduceAdd, Nat.reduceSub, Nat.reduceMul, Nat.reduceLeDiff, Int.reduceLT, Int.reduceLE, Int.reduceEq, ↓reduceIte, Int.reduceNeg, Int.reduceAdd, Int.reduceSub, Int.reduceMul, true_imp_iff, forall_const, Nat.mul_one, Int.reduceToNat, Nat.reducePow, Int.reducePow, Bool.true_and, Bool.false_and, Bool.and_false]
  refine wp_loop_on (fun (i : Nat × Nat × List UInt8) a σ' => i.1 ≤ 20 ∧ i.2.1 ≤ n ∧ i.2.1 < 10 ^ (20 - i.1) ∧ i.2.2.length = i.1 ∧ ((i.1 = 0 ∧ Lib.decDigits i.2.1 = D) ∨ (0 < i.1 ∧ (if i.2.1 = 0 then [] else Lib.decDigits i.2.1) ++ i.2.2 = D)) ∧ (a 0 = .int .u64 i.2.1 ∧ a 3 = .str i.2.2 ∧ a 4 = .int .i64 i.1) ∧ σ' = σ)
    (fun i => 20 - i.1) (0, n, []) ⟨by simp, Nat.le_refl _, by simp; omega, rfl, .inl ⟨rfl, hD⟩, ?_, rfl⟩ ?_
  · simp (disch := first | assumption | omega | (simp only [List.length_append, List.length_cons, List.length_nil]; omega)) only [go_sem, reduceCtorEq, Nat.reduceEqDiff, Nat.reduceAdd, Nat.reduceSub, Nat.reduceMul, Nat.reduceLeDiff, Int.reduceLT, Int.reduceLE, Int.reduceEq, ↓reduceIte, Int.reduceNeg, Int.reduceAdd, Int.reduceSub, Int.reduceMul, true_imp_iff, forall_const, Nat.mul_one, Int.reduceToNat, Nat.reducePow, Int.reducePow, Bool.true_and, Bool.false_and, Bool.and_false]
  rintro ⟨i, m, s⟩ a σ1 ⟨hi, hmn, hm, hs, hx, ⟨f0, f3, f4⟩, rfl⟩
  dsimp only at hi hmn hm hs hx f0 f3 f4
  by_cases hend : i = 20 ∨ (0 < i ∧ m = 0)
  · have hsD : s = D := by
      rcases hx with ⟨h1, h2⟩ | ⟨h1, h2⟩
      · omega
      · have : m = 0 := by
          rcases hend with rfl | h
          · simpa using hm
          · exact h.2
        rw [if_pos this] at h2
        exact h2
    by_cases h20 : i = 20
    · have e1 : ¬ (i : Int) < 20 := by omega
      simp (disch := first | assumption | omega | (simp only [List.length_append, List.length_cons, List.length_nil]; omega)) only [go_sem, reduceCtorEq, Nat.reduceEqDiff, Nat.reduceAdd, Nat.reduceSub, Nat.reduceMul, Nat.reduceLeDiff, Int.reduceLT, Int.reduceLE, Int.reduceEq, ↓reduceIte, Int.reduceNeg, Int.reduceAdd, Int.reduceSub, Int.reduceMul, true_imp_iff, forall_const, Nat.mul_one, Int.reduceToNat, Nat.reducePow, Int.reducePow, Bool.true_and, Bool.false_and, Bool.and_false, f0, f3, f4, e1]
      exact retC_by (Drop.refl _) (.refl _) ⟨by rw [← hsD]; rfl, rfl⟩
    · have e1 : (i : Int) < 20 := by omega
      have e2 : ¬ (i : Int) = 0 := by omega
      have e3 : ¬ (0 : Int) < m := by omega
      simp (disch := first | assumption | omega | (simp only [List.length_append, List.length_cons, List.length_nil]; omega)) only [go_sem, reduceCtorEq, Nat.reduceEqDiff, Nat.reduceAdd, Nat.reduceSub, Nat.reduceMul, Nat.reduceLeDiff, Int.reduceLT, Int.reduceLE, Int.reduceEq, ↓reduceIte, Int.reduceNeg, Int.reduceAdd, Int.reduceSub, Int.reduceMul, true_imp_iff, forall_const, Nat.mul_one, Int.reduceToNat, Nat.reducePow, Int.reducePow, Bool.true_and, Bool.false_and, Bool.and_false, f0, f3, f4, e1, e2, e3]
      exact retC_by (Drop.refl _) (.refl _) ⟨by rw [← hsD]; rfl, rfl⟩
  · have e1 : (i : Int) < 20 := by omega
    have t1 : (m : Int).tmod 10 = ((m % 10 : Nat) : Int) := rfl
    have t2 : (m : Int).tdiv 10 = ((m / 10 : Nat) : Int) := rfl
    have e4 : (48 + ((m % 10 : Nat) : Int)).toNat = 48 + m % 10 := by omega
    have hs1 : 1 + s.length ≤ 9223372036854775807 := by omega
    have hstep : (0 < i → m ≠ 0) → (if m / 10 = 0 then [] else Lib.decDigits (m / 10)) ++ (UInt8.ofNat (48 + m % 10) :: s) = Lib.decDigits m ++ s := by
      intro _
      rw [dec_step m]
      by_cases h10 : m < 10
      · rw [if_pos h10, if_pos (by omega), show m % 10 = m by omega]; rfl
      · rw [if_neg h10, if_neg (by omega)]; simp
    have g2 : m / 10 < 10 ^ (20 - (i + 1)) := by
      rw [show 20 - i = (20 - (i + 1)) + 1 by omega, Nat.pow_succ] at hm
      omega
    have g4 : (if m / 10 = 0 then [] else Lib.decDigits (m / 10)) ++ (UInt8.ofNat (48 + m % 10) :: s) = D := by
      rw [hstep (by omega)]
      rcases hx with ⟨h1, h2⟩ | ⟨h1, h2⟩
      · subst h1
        rw [List.eq_nil_of_length_eq_zero hs, List.append_nil]
        exact h2
      · rw [if_neg (by omega)] at h2
        exact h2
    by_cases h0 : i = 0
    · subst h0
      simp (disch := first | assumption | omega | (simp only [List.length_append, List.length_cons, List.length_nil]; omega)) only [go_sem, reduceCtorEq, Nat.reduceEqDiff, Nat.reduceAdd, Nat.reduceSub, Nat.reduceMul, Nat.reduceLeDiff, Int.reduceLT, Int.reduceLE, Int.reduceEq, ↓reduceIte, Int.reduceNeg, Int.reduceAdd, Int.reduceSub, Int.reduceMul, true_imp_iff, forall_const, Nat.mul_one, Int.reduceToNat, Nat.reducePow, Int.reducePow, Bool.true_and, Bool.false_and, Bool.and_false, f0, f3, f4, e1, t1, t2, e4, hs1]
      exact ⟨(0 + 1, m / 10, UInt8.ofNat (48 + m % 10) :: s), by dsimp only; omega, by dsimp only; omega, by dsimp only; omega, g2, by simp [hs], .inr ⟨by dsimp only; omega, g4⟩, rfl, rfl, rfl⟩
    · have e2 : ¬ (i : Int) = 0 := by omega
      have e3 : (0 : Int) < m := by omega
      simp (disch := first | assumption | omega | (simp only [List.length_append, List.length_cons, List.length_nil]; omega)) only [go_sem, reduceCtorEq, Nat.reduceEqDiff, Nat.reduceAdd, Nat.reduceSub, Nat.reduceMul, Nat.reduceLeDiff, Int.reduceLT, Int.reduceLE, Int.reduceEq, ↓reduceIte, Int.reduceNeg, Int.reduceAdd, Int.reduceSub, Int.reduceMul, true_imp_iff, forall_const, Nat.mul_one, Int.reduceToNat, Nat.reducePow, Int.reducePow, Bool.true_and, Bool.false_and, Bool.and_false, f0, f3, f4, e1, e2, e3, t1, t2, e4, hs1]
      exact ⟨(i + 1, m / 10, UInt8.ofNat (48 + m % 10) :: s), by dsimp only; omega, by dsimp only; omega, by dsimp only; omega, g2, by simp [hs], .inr ⟨by dsimp only; omega, g4⟩, rfl, rfl, rfl⟩

/-- All digits. -/
def AllD (l : List UInt8) : Prop := ∀ c ∈ l, 48 ≤ c.toNat ∧ c.toNat ≤ 57
/-- What digits are worth. -/
def nv : List UInt8 → Nat
  | [] => 0
  | c :: l => (c.toNat - 48) * 10 ^ l.length + nv l
theorem nv_lt : ∀ {l : List UInt8}, AllD l → nv l < 10 ^ l.length
  | [], _ => by simp [nv]
  | c :: l, h => by
    have h1 := nv_lt fun d hd => h d (List.mem_cons_of_mem _ hd)
    have h2 := h c (List.mem_cons_self)
    have h3 : (c.toNat - 48) * 10 ^ l.length ≤ 9 * 10 ^ l.length := Nat.mul_le_mul_right _ (by omega)
    simp only [nv, List.length_cons, Nat.pow_succ]
    omega
theorem nv_app : ∀ (l m : List UInt8), nv (l ++ m) = nv l * 10 ^ m.length + nv m
  | [], m => by simp [nv]
  | c :: l, m => by
    rw [List.cons_append, nv, nv_app l m, nv, List.length_append, Nat.pow_add, Nat.add_mul, Nat.mul_assoc, Nat.add_assoc]
theorem nv_zeros (k : Nat) : nv (List.replicate k 48) = 0 := by
  induction k with
  | zero => rfl
  | succ k ih => rw [List.replicate_succ, nv, ih]; simp
theorem nv_dd : ∀ (n : Nat), nv (Lib.decDigits n) = n := by
  intro n
  induction n using Nat.strongRecOn with
  | _ n ih =>
    by_cases h : n < 10
    · rw [dd_small h]
      simp only [nv, dig_nat h, List.length_nil]
      omega
    · rw [dd_big h, nv_app, ih (n / 10) (by omega)]
      simp only [nv, dig_nat (show n % 10 < 10 by omega), List.length_cons, List.length_nil]
      omega
/-- Reading digits: the number, if it fits. -/
theorem acc_total : ∀ {l : List UInt8} {n : Nat}, AllD l → n ≤ 999999999999999999 → accP n l = if n * 10 ^ l.length + nv l ≤ 999999999999999999 then some (n * 10 ^ l.length + nv l) else none
  | [], n, _, hn => by simp [accP, nv, hn]
  | c :: l, n, h, hn => by
    have h2 := h c (List.mem_cons_self)
    have hl : AllD l := fun d hd => h d (List.mem_cons_of_mem _ hd)
    have hp : 0 < 10 ^ l.length := Nat.pow_pos (by omega)
    have e : n * 10 ^ (c :: l).length + nv (c :: l) = (10 * n + (c.toNat - 48)) * 10 ^ l.length + nv l := by
      rw [nv, List.length_cons, Nat.pow_succ, Nat.add_mul, Nat.mul_comm 10 n, ← Nat.mul_assoc, Nat.mul_right_comm n]
      omega
    rw [accP, e]
    by_cases hb : 99999999999999999 < n
    · rw [if_pos (by omega), if_neg]
      have := Nat.mul_le_mul (show 1000000000000000000 ≤ 10 * n + (c.toNat - 48) by omega) hp
      omega
    · rw [if_neg (by omega), acc_total hl (by omega)]
def stripP (l : List UInt8) : List UInt8 := l.dropWhile (· == 48)
theorem nv_strip : ∀ (l : List UInt8), nv (stripP l) = nv l
  | [] => rfl
  | c :: l => by
    unfold stripP
    by_cases h : c = 48
    · subst h
      rw [List.dropWhile_cons, if_pos (by rfl)]
      have := nv_strip l
      unfold stripP at this
      rw [this, nv]
      simp
    · rw [List.dropWhile_cons, if_neg (by simpa using h)]
/-- What Value computes. -/
def valP (m : Bool) (l : List UInt8) : Option Int := madeP m (nv l)
theorem strip_ok (s : List UInt8) (hs : s.length ≤ 1000000) : Pure Tryd.prog 46 [.str s] (.str (stripP s)) := by
  intro σ
  refine a46 (by simp) ?_
  simp (disch := first | assumption | omega | (simp only [List.length_append, List.length_cons, List.length_nil]; omega)) only [go_sem, reduceCtorEq, Nat.reduceEqDiff, Nat.reduceAdd, Nat.reduceSub, Nat.reduceMul, Nat.reduceLeDiff, Int.reduceLT, Int.reduceLE, Int.reduceEq, ↓reduceIte, Int.reduceNeg, Int.reduceAdd, Int.reduceSub, Int.reduceMul, true_imp_iff, forall_const, Nat.mul_one, Int.reduceToNat, Nat.reducePow, Int.reducePow, Bool.true_and, Bool.false_and, Bool.and_false]
  refine wp_loop_on (fun (l : List UInt8) a s2 => stripP l = stripP s ∧ l.length ≤ 1000000 ∧ (a 0 = .str l) ∧ s2 = σ) (fun l => l.length) s ⟨rfl, hs, ?_, rfl⟩ ?_
  · simp (disch := first | assumption | omega | (simp only [List.length_append, List.length_cons, List.length_nil]; omega)) only [go_sem, reduceCtorEq, Nat.reduceEqDiff, Nat.reduceAdd, Nat.reduceSub, Nat.reduceMul, Nat.reduceLeDiff, Int.reduceLT, Int.reduceLE, Int.reduceEq, ↓reduceIte, Int.reduceNeg, Int.reduceAdd, Int.reduceSub, Int.reduceMul, true_imp_iff, forall_const, Nat.mul_one, Int.reduceToNat, Nat.reducePow, Int.reducePow, Bool.true_and, Bool.false_and, Bool.and_false]
  rintro l a s2 ⟨hl, hlen, hf, rfl⟩
  cases l with
  | nil =>
    simp (disch := first | assumption | omega | (simp only [List.length_append, List.length_cons, List.length_nil]; omega)) only [go_sem, reduceCtorEq, Nat.reduceEqDiff, Nat.reduceAdd, Nat.reduceSub, Nat.reduceMul, Nat.reduceLeDiff, Int.reduceLT, Int.reduceLE, Int.reduceEq, ↓reduceIte, Int.reduceNeg, Int.reduceAdd, Int.reduceSub, Int.reduceMul, true_imp_iff, forall_const, Nat.mul_one, Int.reduceToNat, Nat.reducePow, Int.reducePow, Bool.true_and, Bool.false_and, Bool.and_false, hf]
    exact retC_by (by repeat' (first | exact Drop.refl _ | with_reducible refine Drop.off ?_ (by assumption))) (.refl _) ⟨by rw [← hl]; rfl, rfl⟩
  | cons c l =>
    obtain ⟨m, hm⟩ : ∃ m, m = c :: l := ⟨_, rfl⟩
    have hidx : m[0]? = some c := by rw [hm]; rfl
    have hd1 : m.drop 1 = l := by rw [hm]; rfl
    have hml : m.length = l.length + 1 := by rw [hm]; rfl
    rw [← hm] at hl hlen hf
    rw [← hm]
    have g0 : (0 : Int) < m.length := by omega
    have g1 : (1 : Int) ≤ m.length := by omega
    by_cases h48 : c = 48
    · have h48' : (c.toNat : Int) = 48 := by rw [h48]; rfl
      have hs2 : stripP l = stripP s := by rw [← hl, hm, h48]; rfl
      simp (disch := first | assumption | omega | (simp only [List.length_append, List.length_cons, List.length_nil]; omega)) only [go_sem, reduceCtorEq, Nat.reduceEqDiff, Nat.reduceAdd, Nat.reduceSub, Nat.reduceMul, Nat.reduceLeDiff, Int.reduceLT, Int.reduceLE, Int.reduceEq, ↓reduceIte, Int.reduceNeg, Int.reduceAdd, Int.reduceSub, Int.reduceMul, true_imp_iff, forall_const, Nat.mul_one, Int.reduceToNat, Nat.reducePow, Int.reducePow, Bool.true_and, Bool.false_and, Bool.and_false, hf, hidx, g0, g1, h48', hd1, List.take_length]
      exact ⟨l, by omega, hs2, by omega, rfl⟩
    · have h48' : ¬ (c.toNat : Int) = 48 := by
        intro h
        exact h48 (UInt8.toNat_inj.1 (by have e : (48 : UInt8).toNat = 48 := rfl; omega))
      have hs2 : m = stripP s := by
        rw [← hl, hm]
        unfold stripP
        rw [List.dropWhile_cons, if_neg (by simpa using h48)]
      simp (disch := first | assumption | omega | (simp only [List.length_append, List.length_cons, List.length_nil]; omega)) only [go_sem, reduceCtorEq, Nat.reduceEqDiff, Nat.reduceAdd, Nat.reduceSub, Nat.reduceMul, Nat.reduceLeDiff, Int.reduceLT, Int.reduceLE, Int.reduceEq, ↓reduceIte, Int.reduceNeg, Int.reduceAdd, Int.reduceSub, Int.reduceMul, true_imp_iff, forall_const, Nat.mul_one, Int.reduceToNat, Nat.reducePow, Int.reducePow, Bool.true_and, Bool.false_and, Bool.and_false, hf, hidx, g0, h48']
      exact retC_by (by repeat' (first | exact Drop.refl _ | with_reducible refine Drop.off ?_ (by assumption))) (.refl _) ⟨by rw [← hs2]; rfl, rfl⟩
theorem value_ok (m : Bool) (s : List UInt8) (hs : AllD s) (hl : s.length ≤ 1000000) : Pure Tryd.prog 45 [.bool m, .str s] (resAV (valP m s)) := by
  intro σ
  have htot := acc_total hs (n := 0) (by omega)
  rw [Nat.zero_mul, Nat.zero_add] at htot
  refine a45 (by simp) ?_
  simp (disch := first | assumption | omega | (simp only [List.length_append, List.length_cons, List.length_nil]; omega)) only [go_sem, reduceCtorEq, Nat.reduceEqDiff, Nat.reduceAdd, Nat.reduceSub, Nat.reduceMul, Nat.reduceLeDiff, Int.reduceLT, Int.reduceLE, Int.reduceEq, ↓reduceIte, Int.reduceNeg, Int.reduceAdd, Int.reduceSub, Int.reduceMul, true_imp_iff, forall_const, Nat.mul_one, Int.reduceToNat, Nat.reducePow, Int.reducePow, Bool.true_and, Bool.false_and, Bool.and_false]
  refine wp_loop_on (fun (i : Nat) a s2 => i ≤ s.length ∧ (∃ n : Nat, n ≤ 999999999999999999 ∧ accP 0 s = accP n (s.drop i) ∧ a 6 = .int .u64 n) ∧ (a 0 = .bool m ∧ a 1 = .str s ∧ a 7 = .int .i64 i) ∧ s2 = σ) (fun i => s.length - i) 0 ⟨Nat.zero_le _, ⟨0, by omega, rfl, ?_⟩, ?_, rfl⟩ ?_
  · simp (disch := first | assumption | omega | (simp only [List.length_append, List.length_cons, List.length_nil]; omega)) only [go_sem, reduceCtorEq, Nat.reduceEqDiff, Nat.reduceAdd, Nat.reduceSub, Nat.reduceMul, Nat.reduceLeDiff, Int.reduceLT, Int.reduceLE, Int.reduceEq, ↓reduceIte, Int.reduceNeg, Int.reduceAdd, Int.reduceSub, Int.reduceMul, true_imp_iff, forall_const, Nat.mul_one, Int.reduceToNat, Nat.reducePow, Int.reducePow, Bool.true_and, Bool.false_and, Bool.and_false]
  · simp (disch := first | assumption | omega | (simp only [List.length_append, List.length_cons, List.length_nil]; omega)) only [go_sem, reduceCtorEq, Nat.reduceEqDiff, Nat.reduceAdd, Nat.reduceSub, Nat.reduceMul, Nat.reduceLeDiff, Int.reduceLT, Int.reduceLE, Int.reduceEq, ↓reduceIte, Int.reduceNeg, Int.reduceAdd, Int.reduceSub, Int.reduceMul, true_imp_iff, forall_const, Nat.mul_one, Int.reduceToNat, Nat.reducePow, Int.reducePow, Bool.true_and, Bool.false_and, Bool.and_false]
  rintro i a s2 ⟨hi, ⟨n, hn, hac, h6⟩, hf, rfl⟩
  by_cases hlt : i < s.length
  · have hidx : s[i]? = some (s[i]'hlt) := List.getElem?_eq_getElem hlt
    rw [List.drop_eq_getElem_cons hlt] at hac
    have hc := hs _ (List.getElem_mem hlt)
    obtain ⟨c, hce⟩ : ∃ c, s[i]'hlt = c := ⟨_, rfl⟩
    rw [hce] at hidx hac hc
    have hlt' : (i : Int) < s.length := by omega
    rw [accP] at hac
    by_cases h3 : 99999999999999999 < n
    · have h3' : (99999999999999999 : Int) < n := by omega
      rw [if_pos (by omega)] at hac
      have hno : valP m s = none := by
        unfold valP madeP
        rw [if_neg]
        intro hle
        rw [if_pos hle] at htot
        rw [htot] at hac
        cases hac
      rw [hno]
      simp (disch := first | assumption | omega | (simp only [List.length_append, List.length_cons, List.length_nil]; omega)) only [go_sem, reduceCtorEq, Nat.reduceEqDiff, Nat.reduceAdd, Nat.reduceSub, Nat.reduceMul, Nat.reduceLeDiff, Int.reduceLT, Int.reduceLE, Int.reduceEq, ↓reduceIte, Int.reduceNeg, Int.reduceAdd, Int.reduceSub, Int.reduceMul, true_imp_iff, forall_const, Nat.mul_one, Int.reduceToNat, Nat.reducePow, Int.reducePow, Bool.true_and, Bool.false_and, Bool.and_false, hf, h6, hlt', h3']
      exact retC_by (by repeat' (first | exact Drop.refl _ | with_reducible refine Drop.off ?_ (by assumption))) (.refl _) ⟨rfl, rfl⟩
    · have h3' : ¬ (99999999999999999 : Int) < n := by omega
      rw [if_neg (by omega)] at hac
      obtain ⟨n2, hn2⟩ : ∃ n2 : Nat, 10 * n + (c.toNat - 48) = n2 := ⟨_, rfl⟩
      rw [hn2] at hac
      have e2 : 10 * (n : Int) + (c.toNat : Int) - 48 = n2 := by omega
      have hcb : c.toNat < 256 := c.toNat_lt
      simp (disch := first | assumption | omega | (simp only [List.length_append, List.length_cons, List.length_nil]; omega)) only [go_sem, reduceCtorEq, Nat.reduceEqDiff, Nat.reduceAdd, Nat.reduceSub, Nat.reduceMul, Nat.reduceLeDiff, Int.reduceLT, Int.reduceLE, Int.reduceEq, ↓reduceIte, Int.reduceNeg, Int.reduceAdd, Int.reduceSub, Int.reduceMul, true_imp_iff, forall_const, Nat.mul_one, Int.reduceToNat, Nat.reducePow, Int.reducePow, Bool.true_and, Bool.false_and, Bool.and_false, hf, h6, hlt', h3', hidx, e2]
      exact ⟨i + 1, by omega, by omega, ⟨n2, by omega, hac, rfl⟩, rfl⟩
  · have hlt' : ¬ (i : Int) < s.length := by omega
    rw [List.drop_eq_nil_of_le (by omega), accP, htot] at hac
    have hnv : nv s = n := by
      split at hac
      · injection hac
      · cases hac
    have hv : valP m s = some (if m = true then -(n : Int) else n) := by
      unfold valP madeP
      rw [hnv, if_pos hn]
    rw [hv]
    have g1 : ¬ (999999999999999999 : Int) < n := by omega
    have e1 : IntKind.i64.wrap (n : Int) = n := by rw [IntKind.wrap_i64]; omega
    cases m
    · simp (disch := first | assumption | omega | (simp only [List.length_append, List.length_cons, List.length_nil]; omega)) only [go_sem, reduceCtorEq, Nat.reduceEqDiff, Nat.reduceAdd, Nat.reduceSub, Nat.reduceMul, Nat.reduceLeDiff, Int.reduceLT, Int.reduceLE, Int.reduceEq, ↓reduceIte, Int.reduceNeg, Int.reduceAdd, Int.reduceSub, Int.reduceMul, true_imp_iff, forall_const, Nat.mul_one, Int.reduceToNat, Nat.reducePow, Int.reducePow, Bool.true_and, Bool.false_and, Bool.and_false, hf, h6, hlt', g1, e1]
      exact retC_by (by repeat' (first | exact Drop.refl _ | with_reducible refine Drop.off ?_ (by assumption))) (.refl _) ⟨rfl, rfl⟩
    · simp (disch := first | assumption | omega | (simp only [List.length_append, List.length_cons, List.length_nil]; omega)) only [go_sem, reduceCtorEq, Nat.reduceEqDiff, Nat.reduceAdd, Nat.reduceSub, Nat.reduceMul, Nat.reduceLeDiff, Int.reduceLT, Int.reduceLE, Int.reduceEq, ↓reduceIte, Int.reduceNeg, Int.reduceAdd, Int.reduceSub, Int.reduceMul, true_imp_iff, forall_const, Nat.mul_one, Int.reduceToNat, Nat.reducePow, Int.reducePow, Bool.true_and, Bool.false_and, Bool.and_false, hf, h6, hlt', g1, e1]
      refine retC_by (by repeat' (first | exact Drop.refl _ | with_reducible refine Drop.off ?_ (by assumption))) (.refl _) ⟨?_, rfl⟩
      rw [show (0 : Int) - n = -n by omega]
      rfl
end Go.A
