/- Plain laws of the document's Parse, Text and Fixed. -/
import Derived.Test.YtmefepbdognkdaaDoorHzb
namespace Go.A
open Go.Proofs
set_option maxRecDepth 100000
set_option linter.unusedSimpArgs false
set_option linter.unusedVariables false

/-- What the document's Parse gathers: digits ahead of the first point, digits behind it, points. -/
def rp : List UInt8 → Nat → List UInt8 → List UInt8 → Option (List UInt8 × List UInt8 × Nat)
  | [], d, w, p => some (w, p, d)
  | c :: l, d, w, p => if c = 46 then rp l (d + 1) w p else if c.toNat < 48 ∨ 57 < c.toNat then none else if d = 0 then rp l d (w ++ [c]) p else rp l d w (p ++ [c])
theorem rp_bad : ∀ (x : List UInt8) (d : Nat) (w p : List UInt8), rp x (d + 2) w p = none ∨ ∃ p' k, rp x (d + 2) w p = some (w, p', k + 2)
  | [], d, w, p => .inr ⟨p, d, rfl⟩
  | c :: l, d, w, p => by
    rw [rp]
    split
    · exact rp_bad l (d + 1) w p
    · split
      · exact .inl rfl
      · rw [if_neg (by omega)]
        exact rp_bad l d w _
theorem not_dot {c : UInt8} (h : 48 ≤ c.toNat ∧ c.toNat ≤ 57) : c ≠ 46 := ne_of_digit h.1 (by decide)
theorem rp_all1 : ∀ (x : List UInt8) (w p : List UInt8), AllD x → rp x 1 w p = some (w, p ++ x, 1)
  | [], w, p, _ => by simp [rp]
  | c :: l, w, p, h => by
    have hc := h c (List.mem_cons_self)
    rw [rp, if_neg (not_dot hc), if_neg (by omega), if_neg (by omega), rp_all1 l w _ (fun d hd => h d (List.mem_cons_of_mem _ hd))]
    simp
theorem rp_bad1 : ∀ (x : List UInt8) (w p : List UInt8), ¬ AllD x → rp x 1 w p = none ∨ ∃ p' k, rp x 1 w p = some (w, p', k + 2)
  | [], w, p, h => absurd (fun _ hc => by cases hc) h
  | c :: l, w, p, h => by
    rw [rp]
    split
    · exact rp_bad l 0 w p
    · split
      · exact .inl rfl
      · rw [if_neg (by omega)]
        refine rp_bad1 l w _ fun hl => h fun d hd => ?_
        rcases List.mem_cons.1 hd with rfl | hd
        · omega
        · exact hl d hd
theorem rp_all0 : ∀ (x : List UInt8) (w : List UInt8), AllD x → rp x 0 w [] = some (w ++ x, [], 0)
  | [], w, _ => by simp [rp]
  | c :: l, w, h => by
    have hc := h c (List.mem_cons_self)
    rw [rp, if_neg (not_dot hc), if_neg (by omega), if_pos rfl, rp_all0 l _ (fun d hd => h d (List.mem_cons_of_mem _ hd))]
    simp
theorem rp_bad0 : ∀ (x : List UInt8) (w : List UInt8), (∀ b ∈ x, b ≠ 46) → ¬ AllD x → rp x 0 w [] = none
  | [], w, _, h => absurd (fun _ hc => by cases hc) h
  | c :: l, w, h6, h => by
    rw [rp, if_neg (h6 c (List.mem_cons_self))]
    split
    · rfl
    · rw [if_pos rfl]
      refine rp_bad0 l _ (fun b hb => h6 b (List.mem_cons_of_mem _ hb)) fun hl => h fun d hd => ?_
      rcases List.mem_cons.1 hd with rfl | hd
      · omega
      · exact hl d hd
theorem rp_app0 : ∀ (a x : List UInt8) (w : List UInt8), AllD a → rp (a ++ 46 :: x) 0 w [] = rp x 1 (w ++ a) []
  | [], x, w, _ => by simp [rp]
  | c :: l, x, w, h => by
    have hc := h c (List.mem_cons_self)
    rw [List.cons_append, rp, if_neg (not_dot hc), if_neg (by omega), if_pos rfl, rp_app0 l x _ (fun d hd => h d (List.mem_cons_of_mem _ hd))]
    simp
theorem rp_appBad : ∀ (a x : List UInt8) (w : List UInt8), (∀ b ∈ a, b ≠ 46) → ¬ AllD a → rp (a ++ x) 0 w [] = none
  | [], x, w, _, h => absurd (fun _ hc => by cases hc) h
  | c :: l, x, w, h6, h => by
    rw [List.cons_append, rp, if_neg (h6 c (List.mem_cons_self))]
    split
    · rfl
    · rw [if_pos rfl]
      refine rp_appBad l x _ (fun b hb => h6 b (List.mem_cons_of_mem _ hb)) fun hl => h fun d hd => ?_
      rcases List.mem_cons.1 hd with rfl | hd
      · omega
      · exact hl d hd
theorem acc_bad : ∀ (l : List UInt8) (n : Nat), ¬ AllD l → accP n l = none
  | [], n, h => absurd (fun _ hc => by cases hc) h
  | c :: l, n, h => by
    rw [accP]
    split
    · rfl
    · refine acc_bad l _ fun hl => h fun d hd => ?_
      rcases List.mem_cons.1 hd with rfl | hd
      · omega
      · exact hl d hd
/-- What the document makes of it. -/
def rpEnd (m : Bool) : Option (List UInt8 × List UInt8 × Nat) → Option Int
  | none => none
  | some (w, p, d) => if 1 < d ∨ w = [] ∨ d = 1 ∧ p = [] ∨ 4 < p.length then none else valP m (stripP (w ++ (p ++ List.replicate (4 - p.length) 48)))
theorem first_dot (s : List UInt8) : (∀ b ∈ s, b ≠ 46) ∨ ∃ a x, s = a ++ 46 :: x ∧ ∀ b ∈ a, b ≠ 46 := by
  induction s with
  | nil => exact .inl fun _ h => by cases h
  | cons c l ih =>
    by_cases hc : c = 46
    · subst hc
      exact .inr ⟨[], l, rfl, fun _ h => by cases h⟩
    · rcases ih with h | ⟨a, x, rfl, h⟩
      · refine .inl fun b hb => ?_
        rcases List.mem_cons.1 hb with rfl | hb
        · exact hc
        · exact h b hb
      · refine .inr ⟨c :: a, x, rfl, fun b hb => ?_⟩
        rcases List.mem_cons.1 hb with rfl | hb
        · exact hc
        · exact h b hb
theorem acc_val {m : Bool} {l : List UInt8} (h : AllD l) : (accP 0 l).bind (madeP m) = valP m (stripP l) := by
  have htot := acc_total h (n := 0) (by omega)
  rw [Nat.zero_mul, Nat.zero_add] at htot
  rw [htot]
  unfold valP
  rw [nv_strip]
  by_cases hb : nv l ≤ 999999999999999999
  · rw [if_pos hb]; rfl
  · rw [if_neg hb]
    unfold madeP
    rw [if_neg hb]; rfl
/-- **The document reads what Parse reads.** -/
theorem rp_parse (m : Bool) (s : List UInt8) : rpEnd m (rp s 0 [] []) = parseQ m (Lib.cut s [46]).1 (Lib.cut s [46]).2.1 (Lib.cut s [46]).2.2 := by
  rcases first_dot s with h | ⟨a, x, rfl, h⟩
  · rw [cut_none 46 s h]
    unfold parseQ
    by_cases hd : AllD s
    · rw [rp_all0 s [] hd]
      simp only [rpEnd, List.nil_append]
      by_cases hs : s = []
      · rw [if_pos (by simp [hs]), if_pos (by simp [hs])]
      · rw [if_neg (by simp [hs]), if_neg (by simp [hs]), List.append_nil, acc_val (allD_app hd (allD_zeros _))]
    · rw [rp_bad0 s [] h hd]
      have hne : s ≠ [] := fun e => hd (e ▸ fun _ hc => by cases hc)
      rw [if_neg (by simp [hne]), List.append_nil, acc_bad]
      · rfl
      · exact fun hl => hd fun d hd => hl d (List.mem_append_left _ hd)
  · rw [cut_one 46 a x h]
    unfold parseQ
    by_cases hd : AllD a
    · rw [rp_app0 a x [] hd, List.nil_append]
      by_cases hx : AllD x
      · rw [rp_all1 x a [] hx]
        simp only [rpEnd, List.nil_append]
        by_cases hg : a = [] ∨ x = [] ∨ 4 < x.length
        · rw [if_pos (by rcases hg with h | h | h <;> simp [h]), if_pos (by rcases hg with h | h | h <;> simp [h])]
        · have g1 : a ≠ [] := fun e => hg (.inl e)
          have g2 : x ≠ [] := fun e => hg (.inr (.inl e))
          have g3 : ¬ 4 < x.length := fun e => hg (.inr (.inr e))
          rw [if_neg (by rintro (h | h | ⟨_, h⟩ | h) <;> first | omega | contradiction), if_neg (by rintro (h | ⟨_, h | h⟩) <;> contradiction), List.append_assoc, acc_val (allD_app hd (allD_app hx (allD_zeros _)))]
      · have hnone : (accP 0 (a ++ x ++ List.replicate (4 - x.length) 48)).bind (madeP m) = none := by
          rw [acc_bad]
          · rfl
          · exact fun hl => hx fun d hd => hl d (List.mem_append_left _ (List.mem_append_right _ hd))
        rw [hnone]
        have hr : rpEnd m (rp x 1 a []) = none := by
          rcases rp_bad1 x a [] hx with e | ⟨p', k, e⟩ <;> rw [e]
          · rfl
          · simp only [rpEnd]
            exact if_pos (Or.inl (by omega))
        rw [hr]
        split <;> rfl
    · rw [rp_appBad a _ [] h hd]
      have hnone : (accP 0 (a ++ x ++ List.replicate (4 - x.length) 48)).bind (madeP m) = none := by
        rw [acc_bad]
        · rfl
        · exact fun hl => hd fun d hd => hl d (List.mem_append_left _ (List.mem_append_left _ hd))
      rw [hnone]
      split <;> rfl
/-- Five digits at least: the whole, four places. -/
theorem pad_dd (u : Nat) : padP (Lib.decDigits u) 4 = Lib.decDigits (u / 10000) ++ fourP (u % 10000) := by
  by_cases h : 10000 ≤ u
  · have e : Lib.decDigits u = Lib.decDigits (u / 10000) ++ fourP (u % 10000) := by
      rw [dd_big (by omega), dd_big (by omega), dd_big (by omega), dd_big (by omega)]
      unfold fourP
      simp only [List.append_assoc, List.cons_append, List.nil_append]
      congr 1
      · congr 1; omega
      · congr 1
        · congr 1; omega
        congr 1
        · congr 1; omega
        congr 1
        · congr 1; omega
        congr 1
        · congr 1; omega
    have hl : 4 < (Lib.decDigits u).length := by
      have := List.length_pos_iff.2 (dd_len_pos (u / 10000))
      rw [e, List.length_append, show (fourP (u % 10000)).length = 4 from rfl]
      omega
    rw [padP_done hl, e]
  · have e0 : Lib.decDigits (u / 10000) = [48] := by rw [show u / 10000 = 0 by omega, dd_small (by omega)]; rfl
    have em : u % 10000 = u := by omega
    rw [e0, em]
    have z : (48 : UInt8) = UInt8.ofNat (48 + 0) := rfl
    by_cases h1 : u < 10
    · rw [dd_small h1]
      unfold padP fourP
      rw [show u / 1000 = 0 by omega, show u / 100 % 10 = 0 by omega, show u / 10 % 10 = 0 by omega, show u % 10 = u by omega]
      rfl
    · by_cases h2 : u < 100
      · rw [dd_big h1, dd_small (by omega)]
        unfold padP fourP
        rw [show u / 1000 = 0 by omega, show u / 100 % 10 = 0 by omega, show u / 10 % 10 = u / 10 by omega]
        rfl
      · by_cases h3 : u < 1000
        · rw [dd_big h1, dd_big (by omega), dd_small (by omega)]
          unfold padP fourP
          rw [show u / 1000 = 0 by omega, show u / 100 % 10 = u / 10 / 10 by omega]
          rfl
        · rw [dd_big h1, dd_big (by omega), dd_big (by omega), dd_small (by omega)]
          unfold padP fourP
          rw [show u / 1000 = u / 10 / 10 / 10 by omega, show u / 100 % 10 = u / 10 / 10 % 10 by omega]
          rfl
theorem trim_snoc (l : List UInt8) : Lib.trimRightB (l ++ [48]) 48 = Lib.trimRightB l 48 := by
  unfold Lib.trimRightB
  rw [List.reverse_append]
  simp
theorem trim_stop {l : List UInt8} {c : UInt8} (h : c ≠ 48) : Lib.trimRightB (l ++ [c]) 48 = l ++ [c] := by
  unfold Lib.trimRightB
  rw [List.reverse_append]
  simp [h]
theorem trim_four {p : Nat} (hp : p < 10000) : Lib.trimRightB (fourP p) 48 = [] ↔ p = 0 := by
  constructor
  · intro h
    have h1 := trim_nil h
    unfold fourP at h1
    have g1 := congrArg UInt8.toNat (h1 (UInt8.ofNat (48 + p / 1000)) (by simp))
    have g2 := congrArg UInt8.toNat (h1 (UInt8.ofNat (48 + p / 100 % 10)) (by simp))
    have g3 := congrArg UInt8.toNat (h1 (UInt8.ofNat (48 + p / 10 % 10)) (by simp))
    have g4 := congrArg UInt8.toNat (h1 (UInt8.ofNat (48 + p % 10)) (by simp))
    rw [dig_nat (by omega)] at g1 g2 g3 g4
    have e48 : (48 : UInt8).toNat = 48 := rfl
    rw [e48] at g1 g2 g3 g4
    omega
  · rintro rfl
    decide
theorem text_is (a : Int) : textD a = (if a < 0 then [45] else []) ++ (Lib.decDigits (a.natAbs / 10000) ++ if Lib.trimRightB (fourP (a.natAbs % 10000)) 48 = [] then [] else 46 :: Lib.trimRightB (fourP (a.natAbs % 10000)) 48) := by
  unfold textD placesP
  have hp : a.natAbs % 10000 < 10000 := by omega
  rw [dd_four hp]
  by_cases h0 : a.natAbs % 10000 = 0
  · rw [if_pos h0, if_pos ((trim_four hp).2 h0)]
  · rw [if_neg h0, if_neg fun h => h0 ((trim_four hp).1 h)]
/-- With just so many places. -/
def fixedP (r : Int) (k : Nat) : List UInt8 := (if r < 0 then [45] else []) ++ (Lib.decDigits (r.natAbs / 10000) ++ if k = 0 then [] else 46 :: (fourP (r.natAbs % 10000)).take k)
end Go.A
