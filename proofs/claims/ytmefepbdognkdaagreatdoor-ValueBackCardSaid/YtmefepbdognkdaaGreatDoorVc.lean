/- Numbers, texts, rising lists and spans as bytes: plain. -/
import Derived.Test.YtmefepbdognkdaaGreatDoorBp
import Derived.Laws.BitsAllLaws
namespace Go.Vint
set_option linter.unusedSimpArgs false
set_option linter.unusedVariables false
def u8Of (n : Int) : UInt8 := UInt8.ofNat n.toNat
/-- The bytes of a number, seven bits a byte, the lowest first. -/
def uintB (u : Nat) : List UInt8 := if u < 128 then [u8Of u] else u8Of (128 + u % 128 : Nat) :: uintB (u / 128)
termination_by u
theorem uintB_small {u : Nat} (h : u < 128) : uintB u = [u8Of u] := by unfold uintB; rw [if_pos h]
theorem uintB_big {u : Nat} (h : ¬ u < 128) : uintB u = u8Of (128 + u % 128 : Nat) :: uintB (u / 128) := by
  conv => lhs; unfold uintB
  rw [if_neg h]
theorem uintB_len (k : Nat) : ∀ u : Nat, u < 128 ^ (k + 1) → (uintB u).length ≤ k + 1 := by
  induction k with
  | zero => intro u hu; rw [uintB_small (by simpa using hu)]; simp
  | succ k ih =>
    intro u hu
    by_cases h : u < 128
    · rw [uintB_small h]; simp
    · rw [uintB_big h]
      have := ih (u / 128) (by rw [Nat.div_lt_iff_lt_mul (by omega)]; rw [Nat.pow_succ] at hu; exact hu)
      simp only [List.length_cons]; omega
theorem uintB_le {u : Int} (h : u ≤ 18446744073709551615) : (uintB u.toNat).length ≤ 10 := uintB_len 9 _ (by omega)
theorem uintB_pos (u : Nat) : 0 < (uintB u).length := by
  by_cases h : u < 128
  · rw [uintB_small h]; simp
  · rw [uintB_big h]; simp
/-- In Int's words, as the walk has them. -/
theorem uintB_i {u : Int} (h0 : 0 ≤ u) (h : u < 128) : uintB u.toNat = [u8Of u] := by
  rw [uintB_small (by omega), Int.toNat_of_nonneg h0]
theorem uintB_j {u : Int} (h : 128 ≤ u) : uintB u.toNat = u8Of (128 + u % 128) :: uintB (u / 128).toNat := by
  have e1 : (((128 + u.toNat % 128 : Nat)) : Int) = 128 + u % 128 := by omega
  have e2 : (u / 128).toNat = u.toNat / 128 := by omega
  rw [uintB_big (by omega), e1, e2]
theorem or_128 (k : Int) : bits BinOp.or IntKind.u8 (k % 256) 128 = 128 + k % 128 := by
  have h : ∀ x : Fin 256, bits BinOp.or IntKind.u8 ((x.val : Nat) : Int) 128 = 128 + ((x.val : Nat) : Int) % 128 := by decide +kernel
  have h1 := h ⟨(k % 256).toNat, by omega⟩
  simp only at h1
  rw [Int.toNat_of_nonneg (by omega)] at h1
  rw [h1]; omega
/-- What is folded of a whole number. -/
def foldI (n : Int) : Int := if n < 0 then 2 * (-(n + 1)) + 1 else 2 * n
theorem foldI_bd {n : Int} (h1 : -9223372036854775808 ≤ n) (h2 : n ≤ 9223372036854775807) : 0 ≤ foldI n ∧ foldI n ≤ 18446744073709551615 := by
  unfold foldI; split <;> omega
theorem fold_bits (n : Int) (h1 : -9223372036854775808 ≤ n) (h2 : n ≤ 9223372036854775807) :
    bits BinOp.xor IntKind.u64 (IntKind.u64.wrap (IntKind.u64.wrap n * 2)) (IntKind.u64.wrap (n / 9223372036854775808)) = foldI n := by
  have hb : ∀ a b : Int, bits BinOp.xor IntKind.u64 a b = IntKind.u64.wrap ((BitVec.ofInt 64 a ^^^ BitVec.ofInt 64 b).toNat : Int) := fun _ _ => rfl
  rw [hb]
  simp only [IntKind.wrap_u64]
  have ofi : ∀ a : Nat, a < 18446744073709551616 → (BitVec.ofInt 64 (a : Int)).toNat = a := fun a ha => ofInt_u64 a ha
  unfold foldI
  split
  · rename_i h
    have e1 : n / 9223372036854775808 % 18446744073709551616 = ((18446744073709551615 : Nat) : Int) := by omega
    have e2 : n % 18446744073709551616 * 2 % 18446744073709551616 = ((2 * n + 18446744073709551616).toNat : Int) := by omega
    rw [e1, e2]
    have e3 : BitVec.ofInt 64 ((18446744073709551615 : Nat) : Int) = BitVec.allOnes 64 := by decide +kernel
    rw [e3, BitVec.xor_allOnes, BitVec.toNat_not, ofi _ (by omega)]
    omega
  · rename_i h
    have e1 : n / 9223372036854775808 % 18446744073709551616 = 0 := by omega
    have e2 : n % 18446744073709551616 * 2 % 18446744073709551616 = ((2 * n).toNat : Int) := by omega
    rw [e1, e2]
    have e3 : BitVec.ofInt 64 0 = 0#64 := by decide +kernel
    rw [e3, BitVec.xor_zero, ofi _ (by omega)]
    omega
def textB (s : List UInt8) : List UInt8 := uintB s.length ++ s
def gapsFrom (p : Int) : List Int → List Int
  | [] => []
  | a :: r => (a - p - 1) :: gapsFrom a r
def gaps : List Int → List Int
  | [] => []
  | a :: r => a :: gapsFrom a r
def numsB (l : List Int) : List UInt8 := l.flatMap fun u => uintB u.toNat
def risingB (l : List Int) : List UInt8 := uintB l.length ++ numsB (gaps l)
theorem gapsFrom_length (l : List Int) : ∀ p, (gapsFrom p l).length = l.length := by
  induction l with
  | nil => intro p; rfl
  | cons a r ih => intro p; simp [gapsFrom, ih]
theorem gaps_length (l : List Int) : (gaps l).length = l.length := by cases l <;> simp [gaps, gapsFrom_length]
theorem gapsFrom_get (l : List Int) : ∀ (p : Int) (k : Nat) (x y : Int), (p :: l)[k]? = some y → l[k]? = some x → (gapsFrom p l)[k]? = some (x - y - 1) := by
  induction l with
  | nil => intro p k x y _ h; simp at h
  | cons a r ih =>
    intro p k x y h1 h2
    cases k with
    | zero => simp at h1 h2; subst h1 h2; rfl
    | succ k => simp at h1 h2; simpa [gapsFrom] using ih a k x y (by simpa using h1) h2
theorem gaps_zero {l : List Int} {x : Int} (h : l[0]? = some x) : (gaps l)[0]? = some x := by
  cases l with
  | nil => simp at h
  | cons a r => simpa [gaps] using h
theorem gaps_succ {l : List Int} {k : Nat} {x y : Int} (h1 : l[k]? = some y) (h2 : l[k + 1]? = some x) : (gaps l)[k + 1]? = some (x - y - 1) := by
  cases l with
  | nil => simp at h1
  | cons a r => simpa [gaps] using gapsFrom_get r a k x y h1 (by simpa using h2)
theorem numsB_snoc {l : List Int} {k : Nat} {x : Int} (h : l[k]? = some x) : numsB (l.take (k + 1)) = numsB (l.take k) ++ uintB x.toNat := by
  rw [List.take_add_one, h]; simp [numsB]
theorem numsB_len (l : List Int) (h : ∀ x ∈ l, x ≤ 18446744073709551615) : (numsB l).length ≤ 10 * l.length := by
  induction l with
  | nil => simp [numsB]
  | cons a r ih =>
    have h1 := uintB_le (h a (by simp))
    have h2 := ih fun x hx => h x (by simp [hx])
    simp only [numsB, List.flatMap_cons, List.length_append, List.length_cons] at *
    omega
/-- Numbers that fit and rise. -/
def Rises (l : List Int) : Prop := (∀ x ∈ l, 0 ≤ x ∧ x ≤ 18446744073709551615) ∧ ∀ (k : Nat) (x y : Int), l[k]? = some x → l[k + 1]? = some y → x < y
theorem Rises.at_ {L : List Int} (h : Rises L) {k : Nat} {x : Int} (hx : L[k]? = some x) : 0 ≤ x ∧ x ≤ 18446744073709551615 := h.1 x (List.mem_of_getElem? hx)
theorem gaps_bd {L : List Int} (h : Rises L) : ∀ x ∈ gaps L, x ≤ 18446744073709551615 := by
  intro x hx
  obtain ⟨k, hk⟩ := List.mem_iff_getElem?.1 hx
  cases k with
  | zero =>
    cases L with
    | nil => simp [gaps] at hk
    | cons a r => simp [gaps] at hk; subst hk; exact (h.1 a (by simp)).2
  | succ k =>
    have hkl : k + 1 < L.length := by
      have := List.getElem?_eq_some_iff.1 hk
      obtain ⟨h1, _⟩ := this
      rwa [gaps_length] at h1
    have h1 : L[k]? = some (L[k]'(by omega)) := List.getElem?_eq_getElem (by omega)
    have h2 : L[k + 1]? = some (L[k + 1]'hkl) := List.getElem?_eq_getElem hkl
    have h3 := gaps_succ h1 h2
    rw [hk] at h3
    injection h3 with h3
    have := h.at_ h1
    have := h.at_ h2
    omega
theorem risingB_len {L : List Int} (h : Rises L) (hl : L.length ≤ 1000000) : (risingB L).length ≤ 10 + 10 * L.length := by
  unfold risingB
  have h1 := numsB_len (gaps L) (gaps_bd h)
  have h2 := uintB_le (u := (L.length : Int)) (by omega)
  rw [gaps_length] at h1
  rw [Int.toNat_natCast] at h2
  simp only [List.length_append]; omega
/-- Spans as the numbers that bound them, one behind the other. -/
def flat (L : List (Int × Int)) : List Int := L.flatMap fun s => [s.1, s.2]
theorem flat_length (L : List (Int × Int)) : (flat L).length = L.length * 2 := by
  induction L with
  | nil => rfl
  | cons a r ih => simp only [flat, List.flatMap_cons, List.length_append, List.length_cons, List.length_nil] at *; omega
theorem flat_get (L : List (Int × Int)) : ∀ {k : Nat} {s : Int × Int}, L[k]? = some s → (flat L)[k * 2]? = some s.1 ∧ (flat L)[k * 2 + 1]? = some s.2 := by
  induction L with
  | nil => intro k s h; simp at h
  | cons a r ih =>
    intro k s h
    cases k with
    | zero => simp at h; subst h; simp [flat]
    | succ k =>
      have := ih (k := k) (s := s) (by simpa using h)
      have e : (k + 1) * 2 = k * 2 + 1 + 1 := by omega
      rw [e]
      simpa [flat] using this
theorem flat_append (a b : List (Int × Int)) : flat (a ++ b) = flat a ++ flat b := by simp [flat]
def spansB (L : List (Int × Int)) : List UInt8 := uintB L.length ++ numsB (gaps (flat L))
/-- What is written of the first spans. -/
theorem spans_zero {L : List (Int × Int)} {s : Int × Int} (h : L[0]? = some s) : numsB ((gaps (flat L)).take ((0 + 1) * 2)) = numsB ((gaps (flat L)).take (0 * 2)) ++ (uintB s.1.toNat ++ uintB (s.2 - s.1 - 1).toNat) := by
  have hf := flat_get L h
  have h1 := gaps_zero hf.1
  have h2 := gaps_succ hf.1 hf.2
  rw [show (0 + 1) * 2 = 0 + 1 + 1 from rfl, numsB_snoc (by simpa using h2), numsB_snoc h1]; simp
theorem spans_succ {L : List (Int × Int)} {k : Nat} {p s : Int × Int} (hp : L[k]? = some p) (h : L[k + 1]? = some s) :
    numsB ((gaps (flat L)).take ((k + 1 + 1) * 2)) = numsB ((gaps (flat L)).take ((k + 1) * 2)) ++ (uintB (s.1 - p.2 - 1).toNat ++ uintB (s.2 - s.1 - 1).toNat) := by
  have hf := flat_get L h
  have hq := flat_get L hp
  have e1 : (k + 1) * 2 = k * 2 + 1 + 1 := by omega
  rw [e1] at hf
  have h1 := gaps_succ hq.2 hf.1
  have h2 := gaps_succ hf.1 hf.2
  have e2 : (k + 1 + 1) * 2 = k * 2 + 1 + 1 + 1 + 1 := by omega
  rw [e2, e1, numsB_snoc h2, numsB_snoc h1]; simp
theorem spansB_len {L : List (Int × Int)} (h : Rises (flat L)) (hl : L.length ≤ 100000) : (spansB L).length ≤ 10 + 20 * L.length := by
  unfold spansB
  have h1 := numsB_len (gaps (flat L)) (gaps_bd h)
  have h2 := uintB_le (u := (L.length : Int)) (by omega)
  rw [gaps_length, flat_length] at h1
  rw [Int.toNat_natCast] at h2
  simp only [List.length_append]; omega
/-- One span: its bounds, and how they stand to the one ahead. -/
theorem flat_at {L : List (Int × Int)} (h : Rises (flat L)) {k : Nat} {s : Int × Int} (hs : L[k]? = some s) : 0 ≤ s.1 ∧ s.1 < s.2 ∧ s.2 ≤ 18446744073709551615 := by
  have hf := flat_get L hs
  exact ⟨(h.at_ hf.1).1, h.2 _ _ _ hf.1 hf.2, (h.at_ hf.2).2⟩
theorem flat_next {L : List (Int × Int)} (h : Rises (flat L)) {k : Nat} {p s : Int × Int} (hp : L[k]? = some p) (hs : L[k + 1]? = some s) : p.2 < s.1 := by
  have hf := flat_get L hs
  have hq := flat_get L hp
  rw [show (k + 1) * 2 = k * 2 + 1 + 1 by omega] at hf
  exact h.2 _ _ _ hq.2 hf.1
/-- The end of the span ahead. -/
def EndOf (L : List (Int × Int)) (k : Nat) (e : Int) : Prop := (k = 0 ∧ e = 0) ∨ ∃ j p, k = j + 1 ∧ L[j]? = some p ∧ e = p.2
theorem nil_or_snoc {α : Type} (l : List α) : l = [] ∨ ∃ a b, l = a ++ [b] := by
  rcases List.eq_nil_or_concat l with h | ⟨a, b, h⟩
  · exact .inl h
  · exact .inr ⟨a, b, by rw [h, List.concat_eq_append]⟩
/-- Of at most 20 numbers those that rise. -/
def riseStep (out : List Int) (x : Int) : List Int := if out = [] ∨ out.getLast?.getD 0 < x then out ++ [x] else out
def risingL (L : List Int) : List Int := (L.take 20).foldl riseStep []
theorem riseStep_len (out : List Int) (x : Int) : (riseStep out x).length ≤ out.length + 1 := by
  unfold riseStep; split <;> simp
theorem riseFold_len (L : List Int) : ∀ out, (L.foldl riseStep out).length ≤ out.length + L.length := by
  induction L with
  | nil => intro out; simp
  | cons a r ih => intro out; have := ih (riseStep out a); have := riseStep_len out a; simp only [List.foldl_cons, List.length_cons]; omega
theorem risingL_len (L : List Int) : (risingL L).length ≤ 20 := by
  have := riseFold_len (L.take 20) []
  simp only [List.length_nil, List.length_take] at this
  unfold risingL; omega
theorem riseStep_rises {out : List Int} {x : Int} (h : Rises out) (hx : 0 ≤ x ∧ x ≤ 18446744073709551615) : Rises (riseStep out x) := by
  unfold riseStep
  split
  · rename_i hc
    refine ⟨fun y hy => ?_, fun k a b ha hb => ?_⟩
    · rcases List.mem_append.1 hy with h1 | h1
      · exact h.1 y h1
      · simp at h1; subst h1; exact hx
    · rcases Nat.lt_or_ge (k + 1) out.length with h1 | h1
      · rw [List.getElem?_append_left (by omega)] at ha
        rw [List.getElem?_append_left h1] at hb
        exact h.2 k a b ha hb
      · rw [List.getElem?_append_right h1] at hb
        have hk : k + 1 - out.length = 0 := by
          rcases Nat.eq_zero_or_pos (k + 1 - out.length) with h0 | h0
          · exact h0
          · rw [List.getElem?_eq_none (by simp only [List.length_cons, List.length_nil]; omega)] at hb; cases hb
        rw [hk] at hb
        simp at hb
        subst hb
        rw [List.getElem?_append_left (by omega)] at ha
        rcases hc with h0 | h0
        · subst h0; simp at ha
        · have : out.getLast? = some a := by rw [List.getLast?_eq_getElem?, ← ha]; congr 1; omega
          rw [this] at h0; simpa using h0
  · exact h
theorem riseFold_rises (L : List Int) (hL : ∀ x ∈ L, 0 ≤ x ∧ x ≤ 18446744073709551615) : ∀ out, Rises out → Rises (L.foldl riseStep out) := by
  induction L with
  | nil => intro out h; exact h
  | cons a r ih => intro out h; exact ih (fun x hx => hL x (by simp [hx])) _ (riseStep_rises h (hL a (by simp)))
theorem risingL_rises {L : List Int} (hL : ∀ x ∈ L, 0 ≤ x ∧ x ≤ 18446744073709551615) : Rises (risingL L) :=
  riseFold_rises _ (fun x hx => hL x (List.mem_of_mem_take hx)) _ ⟨by simp, by simp⟩
theorem risingL_snoc {L : List Int} {k : Nat} {x : Int} (h : L[k]? = some x) (hk : k < 20) : (L.take (k + 1)).foldl riseStep [] = riseStep ((L.take k).foldl riseStep []) x := by
  rw [List.take_add_one, h]; simp
/-- Numbers, two by two. -/
def pairs : List Int → List (Int × Int)
  | a :: b :: r => (a, b) :: pairs r
  | _ => []
theorem pairs_length : ∀ l : List Int, (pairs l).length = l.length / 2
  | [] => by simp [pairs]
  | [_] => by simp [pairs]
  | a :: b :: r => by simp only [pairs, List.length_cons, pairs_length r]; omega
theorem pairs_get : ∀ (l : List Int) {k : Nat} {x y : Int}, l[2 * k]? = some x → l[2 * k + 1]? = some y → (pairs l)[k]? = some (x, y)
  | [], k, x, y, h, _ => by simp at h
  | [a], k, x, y, _, h => by simp at h
  | a :: b :: r, 0, x, y, h1, h2 => by simp at h1 h2; subst h1 h2; simp [pairs]
  | a :: b :: r, k + 1, x, y, h1, h2 => by
    rw [show 2 * (k + 1) = 2 * k + 1 + 1 by omega] at h1 h2
    simp only [List.getElem?_cons_succ] at h1 h2
    simpa [pairs] using pairs_get r h1 h2
theorem flat_pairs : ∀ l : List Int, ∃ r, l = flat (pairs l) ++ r
  | [] => ⟨[], by simp [pairs, flat]⟩
  | [a] => ⟨[a], by simp [pairs, flat]⟩
  | a :: b :: r => by
    obtain ⟨s, hs⟩ := flat_pairs r
    refine ⟨s, ?_⟩
    conv => lhs; rw [hs]
    simp [pairs, flat]
theorem Rises.front {l r : List Int} (h : Rises (l ++ r)) : Rises l := by
  refine ⟨fun x hx => h.1 x (by simp [hx]), fun k x y hx hy => h.2 k x y ?_ ?_⟩
  · rw [List.getElem?_append_left (List.getElem?_eq_some_iff.1 hx).1]; exact hx
  · rw [List.getElem?_append_left (List.getElem?_eq_some_iff.1 hy).1]; exact hy
theorem flat_pairs_rises {l : List Int} (h : Rises l) : Rises (flat (pairs l)) := by
  obtain ⟨r, hr⟩ := flat_pairs l
  rw [hr] at h
  exact h.front
/-- The spans of a law's numbers. -/
def spansL (L : List Int) : List (Int × Int) := pairs (risingL L)
theorem spansL_len (L : List Int) : (spansL L).length ≤ 10 := by
  unfold spansL; rw [pairs_length]; have := risingL_len L; omega
theorem or_shift {k U : Nat} {c : UInt8} (hk : k ≤ 9) (hU : U < 128 ^ k) (hc : k = 9 → (c.toNat : Int) ≤ 1) :
    bits BinOp.or IntKind.u64 (U : Int) (IntKind.u64.wrap (IntKind.u64.wrap (bits BinOp.and IntKind.u8 (c.toNat : Int) 127) * 2 ^ (7 * k))) = ((U + c.toNat % 128 * 128 ^ k : Nat) : Int) := by
  have h256 : c.toNat < 256 := c.toNat_lt
  have e1 : bits BinOp.and IntKind.u8 (c.toNat : Int) 127 = ((c.toNat % 128 : Nat) : Int) := by
    rw [show (127 : Int) = ((127 : Nat) : Int) from rfl, u8_and_nat _ _ h256 (by omega), nat_mask7]
  have e2 : (2 : Int) ^ (7 * k) = ((128 ^ k : Nat) : Int) := by rw [Int.pow_mul]; simp
  have hpos : 0 < 128 ^ k := Nat.pos_of_ne_zero (by simp)
  have hb : c.toNat % 128 * 128 ^ k + 128 ^ k ≤ 18446744073709551616 := by
    rcases Nat.lt_or_ge k 9 with h | h
    · have : c.toNat % 128 * 128 ^ k + 128 ^ k ≤ 128 * 128 ^ k := by rw [← Nat.succ_mul]; exact Nat.mul_le_mul_right _ (by omega)
      have h2 : 128 ^ k ≤ 128 ^ 8 := Nat.pow_le_pow_right (by omega) (by omega)
      omega
    · obtain rfl : k = 9 := by omega
      have := hc rfl
      have h3 : c.toNat ≤ 1 := by omega
      have e9 : (128 : Nat) ^ 9 = 9223372036854775808 := by decide
      rw [e9]
      omega
  have e3 : IntKind.u64.wrap (IntKind.u64.wrap ((c.toNat % 128 : Nat) : Int) * ((128 ^ k : Nat) : Int)) = ((c.toNat % 128 * 128 ^ k : Nat) : Int) := by
    have i1 : ((c.toNat % 128 : Nat) : Int) % 18446744073709551616 = ((c.toNat % 128 : Nat) : Int) := by omega
    have i2 : c.toNat % 128 * 128 ^ k < 18446744073709551616 := by omega
    rw [IntKind.wrap_u64, IntKind.wrap_u64, i1, ← Int.natCast_mul]
    generalize c.toNat % 128 * 128 ^ k = v at i2
    omega
  rw [e1, e2, e3, u64_or_nat _ _ (by omega) (by omega), Nat.or_comm, nat_join (7 * k) _ _ ?_ ?_, Nat.add_comm]
  · rw [Nat.pow_mul]; exact Nat.mul_mod_left _ _
  · rw [Nat.pow_mul]; exact hU
theorem or_shift_bd {k U : Nat} {c : UInt8} (hU : U < 128 ^ k) : U + c.toNat % 128 * 128 ^ k < 128 ^ (k + 1) := by
  have : c.toNat % 128 * 128 ^ k + 128 ^ k ≤ 128 * 128 ^ k := by rw [← Nat.succ_mul]; exact Nat.mul_le_mul_right _ (by omega)
  rw [Nat.pow_succ, Nat.mul_comm (128 ^ k)]; omega
/-- A number's bytes, read: the error, the number, how many bytes. -/
def scan : Nat → Nat → List UInt8 → Int × Nat × Nat
  | _, _, [] => (2, 0, 0)
  | i, u, c :: r => if (i = 9 ∧ 1 < c.toNat) ∨ (0 < i ∧ c.toNat = 0) then (3, 0, 0)
    else if c.toNat < 128 then (0, u + c.toNat % 128 * 128 ^ i, i + 1) else scan (i + 1) (u + c.toNat % 128 * 128 ^ i) r
/-- The next number: it, the place behind it, the error. -/
def readU (l : List UInt8) (p : Nat) (err : Int) : Nat × Nat × Int :=
  if err ≠ 0 then (0, p, err) else ((scan 0 0 (l.drop p)).2.1, p + (scan 0 0 (l.drop p)).2.2, (scan 0 0 (l.drop p)).1)
theorem scan_step {l : List UInt8} {p k U : Nat} {c : UInt8} (hc : l[p + k]? = some c) : scan k U (l.drop (p + k)) =
    if (k = 9 ∧ 1 < c.toNat) ∨ (0 < k ∧ c.toNat = 0) then (3, 0, 0) else if c.toNat < 128 then (0, U + c.toNat % 128 * 128 ^ k, k + 1) else scan (k + 1) (U + c.toNat % 128 * 128 ^ k) (l.drop (p + (k + 1))) := by
  obtain ⟨h, hc⟩ := List.getElem?_eq_some_iff.1 hc
  rw [List.drop_eq_getElem_cons h, hc]
  rfl
theorem scan_stop {l : List UInt8} {p k U : Nat} (h : l.length ≤ p + k) : scan k U (l.drop (p + k)) = (2, 0, 0) := by
  rw [List.drop_of_length_le h]; rfl
theorem readU_of {l : List UInt8} {p : Nat} {r : Int × Nat × Nat} (h : scan 0 0 (l.drop p) = r) : readU l p 0 = (r.2.1, p + r.2.2, r.1) := by
  unfold readU; rw [h]; simp
end Go.Vint
