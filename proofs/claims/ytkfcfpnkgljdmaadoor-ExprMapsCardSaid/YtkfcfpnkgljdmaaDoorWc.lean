/- A reference's text, read. Plain. -/
import Derived.Test.YtkfcfpnkgljdmaaDoorGp
import Derived.Lib.ItoaNum
namespace Go.A
open Go.Proofs
set_option maxRecDepth 100000
set_option linter.unusedSimpArgs false
set_option linter.unusedVariables false

/-- The digits of n, of at most k. -/
def digF : Nat → Nat → List UInt8
  | 0, _ => []
  | k + 1, n => if n < 10 then [UInt8.ofNat (48 + n)] else digF k (n / 10) ++ [UInt8.ofNat (48 + n % 10)]
theorem digF_eq : ∀ (k n : Nat), n < 10 ^ (k + 1) → Lib.decDigits n = digF (k + 1) n
  | 0, n, h => by
    rw [Lib.decDigits, dif_pos (by omega)]
    unfold digF
    rw [if_pos (by omega)]
  | k + 1, n, h => by
    rw [Lib.decDigits]
    unfold digF
    by_cases h1 : n < 10
    · rw [dif_pos h1, if_pos h1]
    · rw [dif_neg h1, if_neg h1, digF_eq k (n / 10) (by rw [Nat.pow_succ] at h; omega)]
def numT (row : Int) : List UInt8 := digF 4 (row + 1).toNat
theorem itoa_num {row : Int} (h0 : 0 ≤ row) (h1 : row < 3000) : Lib.itoa (row + 1) = numT row := by
  unfold Lib.itoa numT
  rw [if_neg (by omega), digF_eq 3 _ (by omega)]

theorem num_all : (List.range 3000).all (fun i => decide (numF 0 (numT i) = (i : Int) + 1) && (numT i).all isD && decide (1 ≤ (numT i).length) && decide ((numT i).length ≤ 4) && decide (atP (numT i) 0 ≠ 48)) = true := by decide +kernel
theorem num_facts {row : Int} (h0 : 0 ≤ row) (h1 : row < 3000) : numF 0 (numT row) = row + 1 ∧ (∀ c ∈ numT row, isD c = true) ∧ 1 ≤ (numT row).length ∧ (numT row).length ≤ 4 ∧ atP (numT row) 0 ≠ 48 := by
  obtain ⟨i, rfl⟩ : ∃ i : Nat, row = i := ⟨row.toNat, by omega⟩
  have := List.all_eq_true.1 num_all i (List.mem_range.2 (by omega))
  simpa [and_assoc] using this
theorem let_all : (List.range 700).all (fun i => (lettersP i).all isL && decide (1 ≤ (lettersP i).length)) = true := by decide +kernel
theorem let_facts {col : Int} (h0 : 0 ≤ col) (h1 : col < 700) : (∀ c ∈ lettersP col, isL c = true) ∧ 1 ≤ (lettersP col).length := by
  obtain ⟨i, rfl⟩ : ∃ i : Nat, col = i := ⟨col.toNat, by omega⟩
  have := List.all_eq_true.1 let_all i (List.mem_range.2 (by omega))
  simpa using this

theorem atP_app (p x : List UInt8) : atP (p ++ x) p.length = atP x 0 := by
  unfold atP
  rw [List.getElem?_append_right (Nat.le_refl _), Nat.sub_self]
theorem atP_0 {l x : List UInt8} (h : 1 ≤ l.length) : atP (l ++ x) 0 = atP l 0 := by
  unfold atP
  rw [List.getElem?_append_left (by omega)]
theorem atP_all {l : List UInt8} {p : UInt8 → Bool} (h : ∀ c ∈ l, p c = true) (h1 : 1 ≤ l.length) : ∃ c : UInt8, p c = true ∧ atP l 0 = c.toNat := by
  cases l with
  | nil => simp at h1
  | cons c l => exact ⟨c, h c (by simp), rfl⟩
theorem runL_app {p : UInt8 → Bool} {x : List UInt8} (hx : ∀ c, x[0]? = some c → p c = false) : ∀ {l : List UInt8}, (∀ c ∈ l, p c = true) → runL p (l ++ x) = l.length
  | [], _ => by
    cases x with
    | nil => rfl
    | cons c x =>
      simp only [List.nil_append, runL, hx c rfl]
      rfl
  | c :: l, h => by
    simp only [List.cons_append, runL, h c (by simp), if_true, List.length_cons]
    rw [runL_app hx fun c hc => h c (by simp [hc])]
theorem numF_app {x : List UInt8} (hx : ∀ c, x[0]? = some c → isD c = false) : ∀ {l : List UInt8} {n : Int}, (∀ c ∈ l, isD c = true) → numF n (l ++ x) = numF n l
  | [], n, _ => by
    cases x with
    | nil => rfl
    | cons c x =>
      simp only [List.nil_append, numF, hx c rfl]
      rfl
  | c :: l, n, h => by
    simp only [List.cons_append, numF, h c (by simp), if_true]
    exact numF_app hx fun c hc => h c (by simp [hc])
theorem d_not_l (c : UInt8) (h : isD c = true) : isL c = false := by
  simp only [isD, decide_eq_true_eq] at h
  unfold isL letterP
  rw [if_neg (by omega), if_neg (by omega)]
  rfl

def dolP (b : Bool) : List UInt8 := if b then [36] else []
def textP (r : Ref) : List UInt8 := dolP r.absCol ++ lettersP r.col ++ dolP r.absRow ++ numT r.row
/-- What may stand behind a reference. -/
def Behind (x : List UInt8) : Prop := x = [] ∨ ∃ y, x = 58 :: y

theorem readQ_text {p x : List UInt8} (hx : Behind x) {row : Int} (h0 : 0 ≤ row) (h1 : row < 3000) (col : Int) (ar ac : Bool) :
    readQ (p ++ (numT row ++ x)) p.length col ar ac = (⟨row, col, ar, ac⟩, ((p.length + (numT row).length : Nat) : Int)) := by
  obtain ⟨n1, n2, n3, n4, n5⟩ := num_facts h0 h1
  have hxd : ∀ c, x[0]? = some c → isD c = false := by
    rcases hx with rfl | ⟨y, rfl⟩
    · intro c hc; simp at hc
    · intro c hc; simp at hc; subst hc; decide
  have hxa : atP x 0 = 0 ∨ atP x 0 = 58 := by
    rcases hx with rfl | ⟨y, rfl⟩
    · exact .inl rfl
    · exact .inr rfl
  have e1 : (p ++ (numT row ++ x)).drop p.length = numT row ++ x := by simp
  have e2 : runL isD (numT row ++ x) = (numT row).length := runL_app hxd n2
  have e3 : numF 0 (numT row ++ x) = row + 1 := by rw [numF_app hxd n2, n1]
  have e4 : atP (p ++ (numT row ++ x)) p.length = atP (numT row) 0 := by rw [atP_app, atP_0 n3]
  have e5 : atP (p ++ (numT row ++ x)) (p.length + (numT row).length) = atP x 0 := by
    rw [← List.append_assoc, ← List.length_append, atP_app]
  unfold readQ
  rw [e1, e2, e3, e4, e5, if_neg]
  · rw [show row + 1 - 1 = row by omega]
  · rintro (h | h | h | h | h)
    · omega
    · omega
    · exact n5 h
    · rcases hxa with h2 | h2 <;> rw [h2] at h <;> revert h <;> decide
    · rcases hxa with h2 | h2 <;> rw [h2] at h <;> revert h <;> decide

theorem readR_text {p x : List UInt8} (hx : Behind x) {r : Ref} (hg : r.good = true) (ac : Bool) :
    readR (p ++ (lettersP r.col ++ (dolP r.absRow ++ (numT r.row ++ x)))) p.length ac = (⟨r.row, r.col, r.absRow, ac⟩, ((p.length + (lettersP r.col).length + (dolP r.absRow).length + (numT r.row).length : Nat) : Int)) := by
  simp only [Ref.good, decide_eq_true_eq] at hg
  obtain ⟨g1, g2, g3, g4⟩ := hg
  obtain ⟨l1, l2⟩ := let_facts g3 g4
  obtain ⟨n1, n2, n3, n4, n5⟩ := num_facts g1 g2
  obtain ⟨d, d1, d2⟩ := atP_all n2 n3
  have hXl : ∀ c, (dolP r.absRow ++ (numT r.row ++ x))[0]? = some c → isL c = false := by
    intro c hc
    cases har : r.absRow with
    | true => rw [har] at hc; simp [dolP] at hc; subst hc; decide
    | false =>
      rw [har] at hc
      simp only [dolP, Bool.false_eq_true, if_false, List.nil_append] at hc
      rw [List.getElem?_append_left (by omega)] at hc
      exact d_not_l c (n2 c (List.mem_of_getElem? hc))
  have e1 : (p ++ (lettersP r.col ++ (dolP r.absRow ++ (numT r.row ++ x)))).drop p.length = lettersP r.col ++ (dolP r.absRow ++ (numT r.row ++ x)) := by simp
  have e2 : runL isL (lettersP r.col ++ (dolP r.absRow ++ (numT r.row ++ x))) = (lettersP r.col).length := runL_app hXl l1
  have e3 : ((p ++ (lettersP r.col ++ (dolP r.absRow ++ (numT r.row ++ x)))).take (p.length + (lettersP r.col).length)).drop p.length = lettersP r.col := by
    rw [← List.append_assoc, ← List.length_append, List.take_left, List.drop_left]
  have e4 : atP (p ++ (lettersP r.col ++ (dolP r.absRow ++ (numT r.row ++ x)))) (p.length + (lettersP r.col).length) = atP (dolP r.absRow ++ (numT r.row ++ x)) 0 := by
    rw [← List.append_assoc, ← List.length_append, atP_app]
  unfold readR
  rw [e1, e2, e3, e4, names_back g3 g4, if_neg (by simp)]
  cases har : r.absRow with
  | true =>
    rw [if_pos (by rfl)]
    have := readQ_text (p := p ++ lettersP r.col ++ [36]) hx g1 g2 r.col true ac
    simp only [List.append_assoc, List.length_append, List.length_cons, List.length_nil, List.singleton_append, Nat.zero_add, ← Nat.add_assoc] at this
    simp only [dolP, if_true, List.singleton_append, List.length_cons, List.length_nil, Nat.zero_add]
    exact this
  | false =>
    have hne : ¬ atP (dolP false ++ (numT r.row ++ x)) 0 = 36 := by
      simp only [dolP, Bool.false_eq_true, if_false, List.nil_append]
      rw [atP_0 n3, d2]
      simp only [isD, decide_eq_true_eq] at d1
      omega
    rw [if_neg hne]
    have := readQ_text (p := p ++ lettersP r.col) hx g1 g2 r.col false ac
    simp only [List.append_assoc, List.length_append] at this
    simp only [dolP, Bool.false_eq_true, if_false, List.nil_append, List.length_nil, Nat.add_zero]
    exact this

/-- **What is written is read again.** -/
theorem read_text {x : List UInt8} (hx : Behind x) {r : Ref} (hg : r.good = true) : readP (textP r ++ x) = (r, ((textP r).length : Int)) := by
  have hg' := hg
  simp only [Ref.good, decide_eq_true_eq] at hg'
  obtain ⟨g1, g2, g3, g4⟩ := hg'
  obtain ⟨l1, l2⟩ := let_facts g3 g4
  obtain ⟨d, d1, d2⟩ := atP_all l1 l2
  obtain ⟨row, col, ar, ac⟩ := r
  unfold readP textP
  simp only [List.append_assoc]
  cases ac with
  | true =>
    rw [if_pos (by rfl)]
    have := readR_text (p := [36]) hx hg true
    simp only [dolP, if_true] at this ⊢
    refine this.trans ?_
    congr 1
    simp only [List.length_append, List.length_cons, List.length_nil]
    omega
  | false =>
    have hne : ¬ atP (dolP false ++ (lettersP col ++ (dolP ar ++ (numT row ++ x)))) 0 = 36 := by
      simp only [dolP, Bool.false_eq_true, if_false, List.nil_append]
      rw [atP_0 l2, d2]
      intro h
      simp only [isL, decide_eq_true_eq] at d1
      rw [h] at d1
      revert d1
      decide
    rw [if_neg hne]
    have := readR_text (p := []) hx hg false
    simp only [List.nil_append, List.length_nil, Nat.zero_add] at this
    simp only [dolP, Bool.false_eq_true, if_false, List.nil_append] at this ⊢
    refine this.trans ?_
    congr 1
    simp only [List.length_append, List.length_cons, List.length_nil]
    omega
theorem text_len {r : Ref} (hg : r.good = true) : 2 ≤ (textP r).length ∧ (textP r).length ≤ 10 := by
  simp only [Ref.good, decide_eq_true_eq] at hg
  obtain ⟨g1, g2, g3, g4⟩ := hg
  obtain ⟨l1, l2⟩ := let_facts g3 g4
  obtain ⟨n1, n2, n3, n4, n5⟩ := num_facts g1 g2
  have := letters_len r.col
  unfold textP dolP
  simp only [List.length_append]
  constructor
  · omega
  · split <;> split <;> simp <;> omega
theorem parse_text {r : Ref} (hg : r.good = true) : parseP (textP r) = (r, true) := by
  have h := read_text (x := []) (.inl rfl) hg
  rw [List.append_nil] at h
  have := text_len hg
  unfold parseP
  rw [h, if_neg (by dsimp only; omega)]
theorem parseArea_text {a b : Ref} (ha : a.good = true) (hb : b.good = true) : parseAreaP (textP a ++ [58] ++ textP b) = ((a, b), true) := by
  have h := read_text (x := 58 :: textP b) (.inr ⟨_, rfl⟩) ha
  have l1 := text_len ha
  have l2 := text_len hb
  have e : textP a ++ [58] ++ textP b = textP a ++ 58 :: textP b := by simp
  have e2 : atP (textP a ++ 58 :: textP b) (textP a).length = 58 := by rw [atP_app]; rfl
  have e3 : (textP a ++ 58 :: textP b).drop ((textP a).length + 1) = textP b := by
    rw [← List.drop_drop, List.drop_left]; rfl
  rw [e]
  unfold parseAreaP
  rw [h]
  dsimp only
  rw [if_neg (by omega), if_neg (by simp; omega), Int.toNat_natCast, e2, if_neg (by simp), e3, parse_text hb, if_neg (by simp)]
end Go.A
